/- What the proof of the statement leans on (part 14). -/
import Derived.RangeFuncSeq
import Derived.RangeFuncRecord
import Derived.RangeFuncLeaves
import Derived.TacticsIn
import Derived.Test.YtedocgkapmeceaaGreatDoorQm

namespace Go.Lw
open Go.RowKit
section
variable {h:aD}{l n:Nat}{o:Oper}{r:Loop}{ro:Option Nat}{P:Program}{ρ:Env}{Φ:Value→aD→Prop}
def eR (h:aD) (l:Nat) (o:Obj):aD:=h.setIfInBounds l o
theorem At.eR {B:World}{h:aD}{w:World}(k:At B h w) (l:Nat) (o:Obj):At B (Lw.eR h l o) (w.putObj l o):=⟨by rw[←k.heap];rfl,k.os,k.tape,k.output⟩
theorem DW (h:aD) (l:Nat) (o:Obj):(eR h l o).size=h.size:=by simp[eR]
theorem nG {o:Obj}(hl:l<h.size):(eR h l o)[l]? =some o:=by simp[eR,hl]
theorem Ext.eR {M:Nat→Prop}(h:aD) (l:Nat) (o:Obj) (hm:M l):Ext M h (Lw.eR h l o) :=
 ⟨by simp[DW],fun b _ hb=>by
  have hne:¬l=b:=fun e=>hb (e▸hm)
  simp[Lw.eR,Array.getElem?_setIfInBounds_ne hne]⟩
def eu (h:aD) (l:Nat) (r:Loop):Prop:=h[l]? =some (.loop r)
theorem eu.lt (k:eu h l r):l<h.size:=(Array.getElem?_eq_some_iff.1 k).1
theorem eu.ext {M:Nat→Prop}{h':aD}(k:eu h l r) (e:Ext M h h') (hm:¬M l):eu h' l r:=(e.block l k.lt hm).trans k
def FW (ro:Option Nat):Fence:= { Fence.wide with round:=ro }
theorem El (ro:Option Nat) (P:Program) (m:Machine):m.fenced P (FW ro):=fenced_wide P m
theorem uS {m m':Machine}(h:Steps P m m'):StepsIn (Machine.fenced P (FW ro)) P m m':=(StepsIn.of_steps h).mono fun m _=>El ro P m
theorem F9 {m m':Machine}{e:Ending}(h:Comes P m m' e):ComesIn (Machine.fenced P (FW ro)) P m m' e:=by
 cases e with
 |returned v=>exact uS h
 |panicked c=>exact uS h
 |outgrown=>exact h
theorem AY {f:FuncId}{args:Array Value}{w:World}{R:Ending→World→Prop}(h:Calls P f args w R):CallsIn (FW ro) n P f args w R :=
 ⟨trivial,fun cs _=>let ⟨e,w',fr,r,s,x⟩:=h cs;⟨e,w',fr,r,F9 s,x⟩⟩
theorem aC.MB {X:List PanicEntry→aD→Prop}(k:aC P o ρ h Φ X) (hnd:∀c,o.op≠ .defer c){m:Nat}{B:World}{a:Act}{w:World}(hf:Fits n ρ a) (ha:At B h w)
 {next:Act→World→Prop}{Q:Exit→Act→World→Prop}(hn:∀v h' w',At B h' w'→Φ v h'→next (a.put o.dst v) w') (hx:∀ch h' w',At B h' w'→X ch h'→Q (.panic ch) a w'):o.wpIn (FW ro) m P a w next Q:=by
 have h0:=k n B a w hf ha next (fun e a' w'=>match e with|.panic ch=>Q (.panic ch) a' w'|_=>False) hn (fun ch h' w' ha' hv=>hx ch h' w' ha' hv)
 refine⟨fun _ _=>trivial,?_⟩;rw[Oper.semAt_eq _ _ _ hnd];unfold Oper.wp at h0;generalize (execOp a.eval o).run P w=r at *;have hdep:(FW ro).depth.isSome=true→1≤m:=fun h=>by simp[FW,Fence.wide] at h
 cases r with
 |ok x w' =>
  cases x<;>simp only[Oper.upon] at h0<;>simp only[Oper.uponIn]
  case value v=>exact h0
  case skip=>exact h0
  case defer d=>exact h0
  case enter g args =>
   refine⟨hdep,AY (h0.mono fun e w'' hr=>?_)⟩;cases e with
   |returned v=>exact hr
   |panicked c=>exact hr
   |outgrown=>obtain⟨a₁,w₁,h3⟩:=hr;exact h3.elim
  case row row args =>
   refine⟨hdep,fun c cs _=>?_⟩;obtain⟨v,w'',r,s⟩:=h0 c cs;exact⟨v,w'',r,uS s⟩
 |halt x w'=>cases x<;>simp only[Oper.upon] at h0<;>simp only[Oper.uponIn];exact h0
def gF (P:Program) (ro:Option Nat) (n:Nat) (ops:Array Oper) (i:Nat) (ρ:Env) (h:aD) (N:Env→aD→Prop) (X:List PanicEntry→aD→Prop):Prop :=
 ∀m B a w,Fits n ρ a→At B h w→∀Q:Exit→Act→World→Prop,(∀ρ' h' a' w',Fits n ρ' a'→At B h' w'→N ρ' h'→Q .normal a' w') →
  (∀ch h' a' w',a'.defers=[]→At B h' w'→X ch h'→Q (.panic ch) a' w')→wpOpsIn (FW ro) m P ops Q ((List.range ops.size).drop i) a w
def nH (o:Oper):Bool:=match o.op with|.defer _=>false|_=>true
theorem yz (h:nH o=true):∀c,o.op≠ .defer c:=fun c e=>by simp[nH,e] at h
def lO (P:Program) (l:Nat) (args:Array Value) (h:aD) (R:Ending→aD→Prop):Prop:=∀m B w,At B h w→YieldAt (FW none) m P l args w (lift B R)
section
variable {P:Program}{ro:Option Nat}{n:Nat}{ops:Array Oper}{i:Nat}{ρ:Env}{h:aD}{N:Env→aD→Prop}{X:List PanicEntry→aD→Prop}
theorem gF.op (ho':nth ops.toList i=some o) (hg:o.guard=none) (hnd:nH o=true){od:Option Nat}(hod:o.dst=od) (hd:ji n od=true) (k:aC P o ρ h Φ X)
 (next:∀v h',Φ v h'→gF P ro n ops (i+1) (ρ.put od v) h' N X):gF P ro n ops i ρ h N X:=by
 subst hod;have ho:=fF ho';intro m B a w hf ha Q hN hX;rw[iW (kG ho)];simp only[wpOpsIn,ho];have hw:Region.wanted o (yielded ops a.tmps)=true:=by unfold Region.wanted;rw[hg]
 rw[hw,if_pos rfl];exact k.MB (yz hnd) hf ha (fun v h' w' ha' hv=>next v h' hv m B _ w' (hf.put hd v) ha' Q hN hX) (fun ch h' w' ha' hx=>hX ch h' a w' hf.nd ha' hx)
theorem gF.EK {d:Nat}(ho:nth ops.toList i=some o) (hg:o.guard=none) (hnd:nH o=true) (hod:o.dst=some d) (hd:Nat.blt d n=true) (k:aC P o ρ h Φ X)
 (next:∀v h',Φ v h'→gF P ro n ops (i+1) ((d,v)::ρ) h' N X):gF P ro n ops i ρ h N X:=gF.op ho hg hnd hod hd k next
theorem gF.bZ (ho:nth ops.toList i=some o) (hg:o.guard=none) (hnd:nH o=true) (hod:o.dst=none) (k:aC P o ρ h Φ X)
 (next:∀v h',Φ v h'→gF P ro n ops (i+1) ρ h' N X):gF P ro n ops i ρ h N X:=gF.op ho hg hnd hod rfl k next
theorem gF.au {v:Value}{d:Nat}(ho:nth ops.toList i=some o) (hg:o.guard=none) (hnd:nH o=true) (hod:o.dst=some d) (hd:Nat.blt d n=true) (k:aj P o ρ h v)
 (next:gF P ro n ops (i+1) ((d,v)::ρ) h N X):gF P ro n ops i ρ h N X:=gF.EK ho hg hnd hod hd k.bw (fun _ _ ⟨hv,hh⟩=>by subst hv;subst hh;exact next)
theorem kP (hi:Nat.ble ops.size i=true) (next:N ρ h):gF P ro n ops i ρ h N X:=by
 intro m B a w hf ha Q hN _;have:ops.size≤i:=Nat.le_of_ble_eq_true hi;rw[List.drop_eq_nil_of_le (by simpa using this)];exact hN ρ h a w hf ha next
theorem xM {o:Oper}{Φ:Value→aD→Prop}{d l:Nat}{xf:Operand}{xs:Array Operand}{ts:Array TypeId}{vs:List Value}(ho':nth ops.toList i=some o) (hg:o.guard=none) (hop:o.op= .call ⟨.value xf,xs,ts⟩) (hod:o.dst=some d) (hd:Nat.blt d n=true)
 (hxf:bW ρ xf=some (.func (.yield l) #[] #[])) (hvs:xs.toList.map (bW ρ)=vs.map some) (k:lO P l vs.toArray h (cL Φ))
 (next:∀v h',Φ v h'→gF P none n ops (i+1) ((d,v)::ρ) h' N X):gF P none n ops i ρ h N X:=by
 have ho:=fF ho';intro m B a w hf ha Q hN hX;rw[iW (kG ho)];simp only[wpOpsIn,ho];have hw:Region.wanted o (yielded ops a.tmps)=true:=by unfold Region.wanted;rw[hg]
 rw[hw,if_pos rfl];refine⟨fun _ _=>trivial,?_⟩
 have hargs:xs.map a.eval=vs.toArray:=by
  apply Array.ext'
  simp only[Array.toList_map]
  have key:∀(l:List Operand) (us:List Value),l.map (bW ρ)=us.map some→l.map a.eval=us:=by
   intro l
   induction l with
   |nil=>intro us hu;cases us<;>simp_all
   |cons x r ih =>
    intro us hu;cases us with
    |nil=>simp at hu
    |cons u us =>
     simp only[List.map_cons,List.cons.injEq] at hu ⊢;exact⟨hf.eval hu.1,ih us hu.2⟩
  exact key _ _ hvs
 obtain⟨fn,tmps,assign,body,hy,hR⟩:=k (m-1) B w ha;rw[Oper.semAt_eq _ _ _ (fun c e=>by rw[hop] at e;cases e)]
 rw[show (execOp a.eval o).run P w= .ok (.round l fn tmps assign body) w by
  have h1:(invoke (.fn (.yield l) #[]) vs.toArray).run P w= .ok (.round l fn tmps assign body) w:=by rw[←hy];rfl
  simp[execOp,hop,resolve,hf.eval hxf,Deferred.ofValue,hargs,h1]]
 simp only[Oper.uponIn];refine⟨fun h=>by simp[FW,Fence.wide] at h,hR.mono fun e w' ⟨h',ha',v,he,hp⟩=>?_⟩;subst he;exact next v h' hp m B _ w' (by rw[hod];exact hf.put (dst:=some d) hd v) ha' Q hN hX
end
theorem lO.of {args:Array Value}{id1 id2 idb:Nat}{ops1 ops2:Array Oper}(hl:eu h l r) (hst:r.state= .ready) (hsz:args.size=r.params.size)
 (ht:Fits n ρ { tmps:=(r.params.zip args).foldl (fun tmps (t,a)=>tmps.setIfInBounds t a) r.tmps,defers:=[] }) (ha1:r.assign= .region id1 ops1 false) (hb1:r.body= .block idb (.region id2 ops2 false))
 (walk:gF P (some l) n ops1 0 ρ h (fun ρ1 h1=>eu h1 l r∧gF P (some l) n ops2 0 ρ1 (eR h1 l (.loop { r with state:=.busy })) (fun _ h2=>∃r2,eu h2 l r2∧Φ (.bool true) (eR h2 l (.loop { r2 with state:=.ready,pending:=none }))) (fun _ _=>False)) (fun _ _=>False)) :
 lO P l args h (cL Φ):=by
 intro m B w ha;have hlw:w.heap[l]? =some (.loop r):=by rw[ha.heap];exact hl
 refine⟨_,_,_,_,run_yield hlw hsz,roundIn_of_wpIn trivial ?_⟩;rw[ha1,hb1];refine wpIn_region ?_;refine walk m B _ w ht ha _ ?_ (fun _ _ _ _ _ _ k=>k.elim);rintro ρ1 h1 a1 w1 hf1 hw1 ⟨hl1,walk2⟩;have hlw1:w1.heap[l]? =some (.loop r):=by rw[hw1.heap];exact hl1
 refine⟨_,run_beginRound hlw1 hst,?_⟩;refine wpIn_block (wpIn_region ?_);refine walk2 m B a1 _ hf1 (hw1.eR l _) _ ?_ (fun _ _ _ _ _ _ k=>k.elim);rintro ρ2 h2 a2 w2 hf2 hw2 ⟨r2,hl2,hΦ⟩;have hlw2:w2.heap[l]? =some (.loop r2):=by rw[hw2.heap];exact hl2
 exact⟨_,_,run_endRound none hlw2,_,hw2.eR l _,_,rfl,hΦ⟩
theorem AZ {tmps:Array Value}{p1 p2:Nat}{v1 v2:Value}(hf:Fits n ρ { tmps:=tmps,defers:=[] }) (h1:Nat.blt p1 n=true) (h2:Nat.blt p2 n=true) :
 Fits n ((p2,v2)::(p1,v1)::ρ) { tmps:=((#[p1,p2]:Array Nat).zip #[v1,v2]).foldl (fun tmps (t,a)=>tmps.setIfInBounds t a) tmps,defers:=[] }:=by
 have:=(hf.put (dst:=some p1) h1 v1).put (dst:=some p2) h2 v2;simpa [Act.put,Env.put] using this
section
variable {P:Program}{f:FuncId}{fn:Func}{k:List It}{ρ:Env}{h:aD}{R:Ending→aD→Prop}{p:List Nat}
theorem G.JM (hfn:P.funcs[f]? =some fn) (hk:kind (Lw.sub (aM fn) p)=5)
 (next:gF P none fn.ntmps (opsOf (Lw.sub (aM fn) p)) 0 ρ h (fun ρ' h'=>G P f fn k ρ' h' R) (fun ch h'=>R (.panicked ch) h')):G P f fn (.code p::k) ρ h R:=by
 refine tF (fun B a w hf ha=>?_) hfn;cases hc:Lw.sub (aM fn) p<;>simp[hc,kind] at hk;rename_i id ops d;cases d<;>simp at hk;rw[hc] at next
 refine(wpIn_wide (n:=0)).1 (wpIn_region ?_)
 have:=next 0 B a w hf ha (fun e a' w'=>match e with
  |.normal=>∃ρ' h',Fits fn.ntmps ρ' a'∧At B h' w'∧G P f fn k ρ' h' R
  |.panic ch=>a'.defers=[]∧∃h',At B h' w'∧R (.panicked ch) h'
  |_=>False) (fun ρ' h' a' w' f' a'' hn=>⟨ρ',h',f',a'',hn⟩) (fun ch h' a' w' hd a'' hx=>⟨hd,h',a'',hx⟩)
 rw[List.drop_zero] at this;exact this
abbrev oL (b:Nat):List Deferred:=[{ target:=.collected b,args:= #[] }]
def lz (fid:FuncId) (tmps:Array Value) (ps:Array Tmp) (assign body:Code) (b:Nat):Loop:= { state:=.ready,pending:=none,fn:=fid,tmps:=tmps,params:=ps,assign:=assign,body:=body,defers:=b }
theorem sL {g:Operand}{ps:Array Tmp}{assign body:Code}{f':FuncId}{fn':Func}{caps:Array Value}(hk:Lw.sub (aM fn) p= .rangeFunc g ps assign body) (hg:bW ρ g=some (.func (.func f') #[] caps))
 (hfn':P.funcs[f']? =some fn') (hb':fn'.body.isSome=true) (hnm':(fn'.name == "runtime.NumGoroutine")=false)
 (hcall:∀fid tmps,Fits fn.ntmps ρ { tmps:=tmps,defers:=[] }→ai P f' (#[.func (.yield (h.size+1)) #[] #[]]++caps) ((h.push (.deferred (some []))).push (.loop (lz fid tmps ps assign body h.size)))
  (cL fun _ h'=>∃r,eu h' (h.size+1) r∧r.state≠ .busy∧r.pending=none∧GD P (oL h.size) f fn k ρ (eR h' (h.size+1) (.loop { r with state:=.exhausted })) R)):G P f fn (.code p::k) ρ h R:=by
 intro B a w hf ha b hb hkk cs
 let Q:Exit→Act→World→Prop:=fun e a' w'=>match e with
  |.normal=>∃h',lU (oL h.size) fn.ntmps ρ a'∧At B h' w'∧GD P (oL h.size) f fn k ρ h' R
  |_=>False
 have hw:(Code.rangeFunc g ps assign body).wp P Q a w:=by
  refine(wpIn_wide (n:=0)).1 (wpIn_rangeFunc fun fid _=>?_);have hb2:fn'.body≠none:=by intro hbb;simp[hbb] at hb'
  have hnm2:¬fn'.name= "runtime.NumGoroutine" :=by simpa using hnm'
  have hf0:Fits fn.ntmps ρ { tmps:=a.tmps,defers:=[] }:=⟨hf.size,hf.ok,rfl⟩
  have ha2:At B ((h.push (.deferred (some []))).push (.loop (lz fid a.tmps ps assign body h.size))) ((w.alloc (.deferred (some []))).alloc (.loop (lz fid a.tmps ps assign body w.heap.size))):=by
   refine⟨?_,ha.os,ha.tape,ha.output⟩
   show ((w.heap.push _).push _)=_
   rw[ha.heap]
  let W1:World:=(w.alloc (.deferred (some []))).alloc (.loop (lz fid a.tmps ps assign body w.heap.size))
  refine⟨w.heap.size+1,oL w.heap.size,W1,{ target:=.fn (.func f') caps,args:= #[.func (.yield (w.heap.size+1)) #[] #[]] },W1,f',#[.func (.yield (w.heap.size+1)) #[] #[]]++caps,W1,run_enterLoop_outer fid a.tmps ps assign body,?_,fun _ _=>trivial,?_,fun h=>by simp[Fence.wide] at h,?_⟩
  · have hge:a.eval g= .func (.func f') #[] caps:=hf.eval hg;have hec:∀v,a.eval (.const v)=v:=fun _=>rfl
    simp[resolve,hge,Deferred.ofValue,hec]
  · simp[invoke,callFunc,hfn',hnm2,hb2]
  · refine AY (ro:=none) ((?_:Calls P f' (#[.func (.yield (w.heap.size+1)) #[] #[]]++caps) ((w.alloc (.deferred (some []))).alloc (.loop (lz fid a.tmps ps assign body w.heap.size))) _));have hc:=hcall fid a.tmps hf0 B _ ha2;rw[←ha.heap] at hc;refine hc.mono fun e w3 he=>?_
    obtain⟨h3,ha3,v,rfl,r,hl,hnb,hpd,hgd⟩:=he;have hl3:w3.heap[w.heap.size+1]? =some (.loop r):=by rw[ha3.heap];exact hl
    refine⟨r.pending,_,run_endLoop hl3 hnb,?_⟩;split
    · refine⟨_,⟨hf.size,hf.ok,?_⟩,ha3.eR _ _,by rw[←ha.heap];exact hgd⟩
      show oL w.heap.size++a.defers=oL h.size
      rw[hf.nd,ha.heap];rfl
    · rename_i hc;rw[hpd] at hc;cases hc
 obtain⟨e,a',w',hq,harr⟩:=hw b (k.map (bh (aM fn))) cs;have hit:(It.code p::k).map (bh (aM fn))=Item.code (Code.rangeFunc g ps assign body)::k.map (bh (aM fn)):=by simp[bh,hk]
 rw[hit];cases e with
 |normal =>
  obtain⟨h',f'',a'',hgd⟩:=hq;obtain⟨e,w'',fr,h'',h1,h2,h3,h4,h5⟩:=hgd B a' w' f'' a'' b hb hkk cs;exact⟨e,w'',fr,h'',h1,h2,.of_steps harr h3,h4,h5⟩
 |panic ch=>exact hq.elim
 |exit id=>exact hq.elim
 |goto l=>exact hq.elim
 |ret=>exact hq.elim
 |outgrown=>exact hq.elim
theorem GD.CX {b0:Nat}{vs:List Value}(hfn:P.funcs[f]? =some fn) (hk:kind (Lw.sub (aM fn) p)=4) (hm:h[b0]? =some (.deferred (some []))) (hr:gX ρ fn.results.toList=some vs) (hR:R (.returned (packed vs)) (eR h b0 (.deferred none))):GD P (oL b0) f fn (.code p::k) ρ h R:=by
 intro B a w hf ha b hb hkk cs
 have hstep:Go.step P (lone (b.at a ((It.code p::k).map (bh (aM fn)))) cs w)= .next (lone { b.at a ((It.code p::k).map (bh (aM fn))) with mode:=.returning } cs w):=by
  simp only[List.map_cons,bh];cases hc:Lw.sub (aM fn) p<;>simp[hc,kind] at hk
  · rename_i d;cases d<;>simp at hk
  · exact step_ret
 have htake:(Instr.takeDeferred b0).run P w= .ok [] (w.putObj b0 (.deferred none)):=run_takeDeferred (by rw[ha.heap];exact hm);have h2:=step_collected (P:=P) (fr:= { b.at a ((It.code p::k).map (bh (aM fn))) with mode:=.returning }) (cs:=cs) (by simp) (hf.nd:_=_) rfl htake;have hz:=hf.zero;exact⟨.returned (packed vs),_,_,_,ha.eR b0 _,hR,.head hstep (.one h2),hb,rfl,rfl,hkk,fn,(show P.funcs[b.fn]? =some fn by rw[hb];exact hfn),mG hz _ hr⟩
end
theorem GD.aN {D:List Deferred}{f:FuncId}{fn:Func}{k:List It}{R:Ending→aD→Prop}{id:Nat}(next:GD P D f fn k ρ h R):GD P D f fn (.blk id::k) ρ h R :=
 zo (fun _ _ _ _=>step_inBlock) next
def Mf:Code→Code|.rangeFunc _ _ a _=>a|c=>c
def Me:Code→Code|.rangeFunc _ _ _ b=>b|c=>c
theorem suff {p q:Prop}(h:p) (k:p→q):q:=k h
theorem iP {P:Program}{ρ:Env}{h:aD}{dst:Option Nat}{ty:TypeId}{pos:String}{after:Array Edge}{guard:Option (Nat×Bool)}{g:Fn}{xs:Array Operand}{vs:List Value}(hvs:xs.toList.map (bW ρ)=vs.map some) :
 aj P ⟨dst,.makeFunc g #[] xs,ty,pos,after,guard⟩ ρ h (.func g #[] vs.toArray):=by
 intro _ B a w hf _
 have hargs:xs.map a.eval=vs.toArray:=by
  apply Array.ext'
  simp only[Array.toList_map]
  have key:∀(l:List Operand) (us:List Value),l.map (bW ρ)=us.map some→l.map a.eval=us:=by
   intro l
   induction l with
   |nil=>intro us hu;cases us<;>simp_all
   |cons x r ih =>
    intro us hu;cases us with
    |nil=>simp at hu
    |cons u us =>
     simp only[List.map_cons,List.cons.injEq] at hu ⊢;exact⟨hf.eval hu.1,ih us hu.2⟩
  exact key _ _ hvs
 simp[execOp,Instr.makeFunc,hargs]
end
end Go.Lw
namespace Go.Proofs.YtedocgkapmeceaaGreatDoor
open Go.Proofs.Tryz
open Go Go.Lw
set_option maxRecDepth 20000
section
variable {h h':aD}{O:Nat→Prop}{v w:Value}{nb st:Nat}{ss:List b6}
def eE (n:Nat):Value:=.int .i64 (n:Nat)
def iz:gG Nat:=.flat eE fun _=>rfl
def DH (k s:Nat) (v:Value) (r:Nat):List Value:=[.int .i64 (k:Nat),eV s 0,eV s 1,eV s 2,eV s 3,v,.int .i64 (r:Nat)]
def GL (h:aD) (O:Nat→Prop) (cs:List Value) (x:b6):Prop:=∃v,cs=DH x.kind x.set v x.rule∧bU iz h O v x.to
theorem bU.Iz {α:Type}{e:gG α}{xs:List α}(k:bU e h O v xs):v.oneCell'=true:=by
 obtain⟨oa,n,c,rfl,_⟩:=k;rfl
def Eo:gG b6:=⟨7,by decide,GL,fun h=>by obtain⟨v,rfl,_⟩:=h;rfl,fun h=>by
 obtain⟨v,rfl,hv⟩:=h;intro u hu;simp[DH,eV] at hu
 rcases hu with rfl|rfl|rfl|rfl|rfl|rfl|rfl<;>first|rfl|exact bU.Iz hv,fun h m=>by
 obtain⟨v,hc,hv⟩:=h;exact⟨v,hc,hv.mv m⟩⟩
structure cy (h:aD) (O:Nat→Prop) (nb:Nat) (v:Value) (ss:List b6) (st:Nat):Prop where
 blk:bq h nb 120 [v,.int .i64 (st:Nat)]
 row:dD Eo (fun b=>b=nb∨O b) h (nb+1) 132 v ss
abbrev eS (nb:Nat) (v:Value):Nat→Prop:=fun b=>b=nb∨cT v.ownBlock b
theorem cy.own (k:cy h O nb v ss st):∀b,v.ownBlock=some b→nb<b∧b<h.size:=fun b hb=>by
 obtain⟨css,_,h2,_⟩:=k.row;have:=h2.lt hb;omega
theorem cy.ext {M:Nat→Prop}{O O':Nat→Prop}{h h':aD}{nb:Nat}{v:Value}{ss:List b6}{st:Nat}(k:cy h O nb v ss st) (e:Ext M h h') (hnb:¬M nb) (hown:∀b,v.ownBlock=some b→¬M b) (hM:∀b,b<h.size→M b→O b) (hO:∀b,b<h.size→O' b→O b):cy h' O' nb v ss st :=
 ⟨k.blk.ext e hnb,k.row.pG e hown (fun b hb hm=>.inr (hM b hb hm)) (fun b hb k=>k.imp id (hO b hb))⟩
theorem cy.ax {O':Nat→Prop}(k:cy h O nb v ss st) (e:aF h h') (hO:∀b,b<h.size→O' b→O b):cy h' O' nb v ss st:=k.ext e (fun k=>k) (fun _ _ k=>k) (fun _ _ k=>k.elim) hO
theorem ED {x:b6}(hn:cy h O nb v ss st) (_hO:∀b,O b→b<h.size) (hx:GL h (fun b=>eS nb v b∨O b) (DH x.kind x.set w x.rule) x) (hl:ss.length≤1000000) :
 ai Tryz.prog 64 #[.pointer (some ⟨nb,0,none⟩),.agg (DH x.kind x.set w x.rule).toArray] h (cL fun r h'=>∃v',r= .int .i64 (ss.length:Nat)∧cy h' O nb v' (ss++[x]) st∧Ext (eS nb v) h h'∧(∀b,v'.ownBlock=some b→v.ownBlock=some b∨h.size≤b)):=by
 have hw1:∀u∈DH x.kind x.set w x.rule,u.oneCell'=true:=Eo.one hx;refine ai.of func64 rfl rfl ?_;refine xr func64 rfl ?_;refine xo rfl (aC.fe rfl) ?_;rintro _ h1 ⟨rfl,hk1,he1,hz1⟩;have hk1:bq h1 h.size 132 (DH x.kind x.set w x.rule):=hk1;have hn1:=hn.ax (O':=O) he1 (fun _ _ k=>k);obtain⟨css,hc1,hc2,hc3⟩:=id hn1.row;have hown:=hn1.own;have hnlt:=hn1.blk.lt;have hnz:=hn.blk.lt;have hnM:¬(cT v.ownBlock nb∨Array.size h1≤nb):=by rintro(k|k);(have:=hown nb k.symm;omega);omega
 have hkM:¬(cT v.ownBlock h.size∨Array.size h1≤h.size):=by rintro(k|k);(have:=hn.own _ k.symm;omega);omega
 refine aQ 1 [0,1,3,4] rfl ?_;refine av rfl ?_;refine bV (fun b=>cT v.ownBlock b∨Array.size h1≤b) (fun i=>Nat.blt i 10) (sz:=11) (listed:= #[false,false,false,false,false,false,false,false,false,false,false]) func64 H.mixed rfl rfl rfl ?_;refine b9 0 1 (by kernel_rfl) rfl ?_;refine b9 1 3 (by kernel_rfl) rfl ?_;refine b9 2 7 (by kernel_rfl) rfl ?_;refine bI 3 15 (by kernel_rfl) rfl (fun h' e=>af (off:=0) underlying120 rfl rfl H.gv rfl) ?_;refine bI 4 31 (by kernel_rfl) rfl (fun h' e=>ah H.iw rfl (e.cell hnM (hn1.blk.cell (i:=0) rfl))) ?_;refine bI 5 63 (by kernel_rfl) rfl (fun h' e=>aj.aG H.K0 H.lW rfl (e.rowAt hkM hk1.row) (by first|rfl|(simp;done)|(simp;omega))) ?_;refine cU 6 127 (by kernel_rfl) rfl (aC.cx (cs:=[_,_,_,_,_,_,_]) underlying118 H.IC rfl rfl (by decide)) ?_;rintro _ _ ⟨rfl,rfl⟩;refine⟨fun _=>by first|exact Ext.push _ _ _|assumption,?_⟩;refine cU 7 255 (by kernel_rfl) rfl (aC.bO underlying118 H.IC rfl rfl (hc2) rfl rfl (hw1) (by omega) (by decide) (by omega)) ?_;rintro v2 h2 ⟨ho2,hx2,hx2',hv2⟩;refine⟨fun _=>hx2'.mono (fun _ _ k=>.inl k),?_⟩;obtain⟨oa2,c2,rfl,_⟩:=ho2.open;refine cU 8 511 (by kernel_rfl) rfl (aj.bw (aO rfl)) ?_;rintro _ hq_ ⟨rfl,hqe_⟩;replace hqe_:=hqe_.symm;subst hqe_;refine⟨fun _=>Ext.refl _ _,?_⟩;refine bI 9 1023 (by kernel_rfl) rfl (fun h' e=>af (off:=0) underlying120 rfl rfl H.gv rfl) ?_;refine fS 10 2047 (by kernel_rfl) rfl (aC.bF H.gv rfl rfl (hn1.blk.ext hx2 (fun k=>by have:=hown nb k.symm;omega)) (by first|decide|exact of_decide_eq_true rfl|(simp;done)|(simp;omega)) rfl) ?_;rintro _ h3 ⟨rfl,hk3,hx3,hz3⟩;refine⟨fun hk=>(nomatch hk),?_⟩;refine bg (by kernel_rfl) ?_;refine xu [0,1,3,4] rfl ?_;refine br func64 2 rfl ?_;refine xp rfl (af (off:=0) underlying120 rfl rfl H.gv rfl) ?_;have hxs:Eo.R h1 (fun b=>cT v.ownBlock b∨b=nb∨O b) (DH x.kind x.set w x.rule) x:=Eo.mv hx ⟨he1.size,fun b hb hn=>⟨he1.block b hb (fun k=>k),fun k=>hn (by rcases k with k|k|k;(exact .inl (.inr k));(exact .inl (.inl k));exact .inr k)⟩⟩;have hrow2:dD Eo (fun b=>b=nb∨O b) h2 (nb+1) 132 (.slice oa2 (ss.length+1) c2) (ss++[x]):=dD.fV hc1 hc3 ho2 hx2 hv2 hxs;have hrow3:dD Eo (fun b=>b=nb∨O b) h3 (nb+1) 132 (.slice oa2 (ss.length+1) c2) (ss++[x]):=hrow2.pG hx3 (fun b hb (k:b=nb)=>by have:=hv2 b hb;rcases this with k'|k';(have:=hown b k';omega);omega) (fun b _ k=>.inl k) (fun b _ k=>k);have hk3:bq h3 nb 120 [.slice oa2 (ss.length+1) c2,.int .i64 (st:Nat)]:=hk3;refine xp rfl (ah H.iw rfl (hk3.cell (i:=0) rfl)) ?_;refine xp rfl (aj.aJ underlying118 rfl) ?_;refine xp rfl (aj.iF rfl rfl ⟨by omega,by omega⟩) ?_;refine aQ 1 [0,1,3,4] rfl ?_;refine G.ret func64 rfl rfl ?_;refine⟨_,rfl,_,?_,⟨hk3,hrow3⟩,⟨by have:=he1.size;have:=hx2.size;omega,fun b hb hn=>by rw[hx3.block b (by have:=hx2.size;omega) (fun k=>hn (.inl k)),hx2.block b (by omega) (fun k=>hn (.inr k)),he1.block b hb (fun k=>k)]⟩,fun b hb=>?_⟩
 · show Value.int _ _=_
   congr 1;omega
 · rcases hv2 b hb with k|k
   · exact .inl k
   · exact .inr (by omega)
theorem s8 {l cap:Nat}{oa:Option Addr}{n c:Nat}{J:Nat→aD→Prop}(hn:n≤1000000)
 (hread:∀j h,J j h→cellAt h ⟨cap,0,none⟩=some (.slice oa n c)) (hy:∀j h,J (j+1) h→j<n→∃(b o k s:Nat) (w:Value),oa=some ⟨b,o,none⟩∧Lw.rowAt h b (o+j*6) (dW k s w) ∧
  lO Tryz.prog l #[.int .i64 (j:Nat),.agg (dW k s w).toArray] h (cL fun r h'=>r= .bool true∧J j h')) (h0:J n h) :
 ai Tryz.prog 145 #[.func (.yield l) #[] #[],.pointer (some ⟨cap,0,none⟩)] h (cL fun _ h'=>J 0 h'):=by
 refine ai.of func145 rfl rfl ?_;refine xr func145 rfl ?_;refine xp rfl (ah H.vE rfl (hread _ _ h0)) ?_;refine xp rfl (aj.aJ underlying124 rfl) ?_;refine xp rfl (aj.iF rfl rfl ⟨by omega,by omega⟩) ?_;refine aQ 1 [0,1,3] rfl ?_;refine G.block rfl rfl ?_;refine bE (σ:=Nat) (fun j=>[(0,.func (.yield l) #[] #[]),(1,.pointer (some ⟨cap,0,none⟩)),(3,.int .i64 ((j:Int)-1))]) (fun j h'=>J j h'∧j≤n) (fun j=>j) (n) rfl ⟨rfl,rfl,rfl,trivial⟩ ⟨h0,Nat.le_refl _⟩ ?_;rintro j h1 ⟨hJ,hj⟩ ih;refine av rfl ?_;refine aW func145 2 [0,1,3,8] rfl ?_;refine aL rfl rfl (fun hge=>?_) (fun hge=>?_)
 · obtain⟨i,rfl⟩:∃i,j=i+1:=⟨j-1,by omega⟩
   obtain⟨b,o,k,s,w,ha,hrow,hyy⟩:=hy i h1 hJ (by omega);have hji:((i+1:Nat):Int)-1=((i:Nat):Int):=by omega
   rw[hji];refine aE rfl ?_;refine av rfl ?_;refine G.block rfl rfl ?_;refine av rfl ?_;refine G.JM func145 rfl ?_;refine gF.au rfl rfl rfl rfl rfl (aK rfl) ?_;refine gF.au rfl rfl rfl rfl rfl (aK rfl) ?_;refine gF.au rfl rfl rfl rfl rfl (ah H.vE rfl (hread _ _ hJ)) ?_;refine gF.au rfl rfl rfl rfl rfl (aK rfl) ?_;refine gF.au rfl rfl rfl rfl rfl (aj.ay underlying124 H.cv rfl rfl i rfl ha (by omega)) ?_;refine gF.au rfl rfl rfl rfl rfl (aj.aG H.eX H.cv rfl hrow (by first|rfl|(simp;done)|(simp;omega))) ?_;refine xM (vs:=[_,_]) rfl rfl rfl rfl rfl rfl rfl (hyy) ?_;rintro _ h2 ⟨rfl,hJ2⟩;refine gF.au rfl rfl rfl rfl rfl (aj.Hf rfl) ?_;refine kP rfl ?_;refine xu [0,1,3,8,18] rfl ?_;refine aI rfl rfl (fun hc=>absurd hc (by decide)) (fun _=>?_);refine aE rfl ?_;refine G.aN ?_;refine G.bT func145 rfl ?_;refine bP 1 rfl rfl (aj.iF rfl rfl ⟨by omega,by omega⟩) ?_;refine aQ 1 [0,1,3,8,18] rfl ?_;exact ih i _ _ ⟨rfl,rfl,rfl,trivial⟩ ⟨hJ2,by omega⟩ (by omega)
 · obtain rfl:j=0:=by omega
   refine bz rfl rfl ?_;refine G.u6 func145 rfl ?_;exact⟨_,rfl,hJ⟩
theorem vw (v:Value) (hv:v.oneCell'=true):ai Tryz.prog 111 #[v] h (cL fun r h'=>r= .func (.func 145) #[] #[.pointer (some ⟨h.size,0,none⟩)]∧h'=h.push (.cells #[v] 124)):=by
 have hcells:v.cells= #[v]:=by cases v<;>simp[Value.oneCell'] at hv<;>rfl
 refine ai.of func111 rfl rfl ?_;refine xr func111 rfl ?_;refine xo rfl (zi rfl) ?_;rintro _ _ ⟨rfl,rfl⟩;refine aQ 1 [0,1,2] rfl ?_;refine xr func111 rfl ?_;refine xp rfl (iP (vs:=[_]) rfl) ?_;refine aQ 1 [0,1,2] rfl ?_;refine G.ret func111 rfl rfl ?_;exact⟨_,rfl,rfl,by rw[hcells]⟩
structure Nx (O:Nat→Prop) (nb:Nat) (h:aD) (v:Value) (h':aD) (v':Value):Prop where
 ext:Ext (fun b=>eS nb v b∨O b) h h'
 own:∀b,v'.ownBlock=some b→v.ownBlock=some b∨h.size≤b
theorem Nx.refl {O:Nat→Prop}{nb:Nat}{h:aD}{v:Value}:Nx O nb h v h v:=⟨Ext.refl _ _,fun _ k=>.inl k⟩
theorem Nx.Jv (e:aF h h'):Nx O nb h v h' v:=⟨e.mono fun _ _ k=>k.elim,fun _ k=>.inl k⟩
theorem Nx.mono {O O':Nat→Prop}{nb:Nat}{h h':aD}{v v':Value}(k:Nx O nb h v h' v') (hO:∀b,b<h.size→O b→O' b):Nx O' nb h v h' v':=⟨k.ext.mono fun b hb k=>k.imp id (hO b hb),k.own⟩
theorem Nx.trans {O':Nat→Prop}{h1 h2:aD}{v1 v2:Value}(k:Nx O nb h v h1 v1) (k':Nx O' nb h1 v1 h2 v2) (hO:∀b,b<h.size→O' b→O b):Nx O nb h v h2 v2:=by
 refine⟨⟨Nat.le_trans k.ext.size k'.ext.size,fun b hb hn=>?_⟩,fun b hb=>?_⟩
 · rw[k'.ext.block b (Nat.lt_of_lt_of_le hb k.ext.size) ?_,k.ext.block b hb hn];rintro((k1|k1)|k1)
   · exact hn (.inl (.inl k1))
   · rcases k.own b k1.symm with k2|k2
     · exact hn (.inl (.inr k2.symm))
     · omega
   · exact hn (.inr (hO b hb k1))
 · have:=k.ext.size
   rcases k'.own b hb with k2|k2
   · exact k.own b k2
   · exact .inr (by omega)
theorem Nx.mv {v':Value}(k:Nx O nb h v h' v'):Mv (fun b=>eS nb v b∨O b) (fun b=>eS nb v' b∨O b) h h' :=
 ⟨k.ext.size,fun b hb hn=>⟨k.ext.block b hb hn,by
  rintro((k1|k1)|k1)
  · exact hn (.inl (.inl k1))
  · rcases k.own b k1.symm with k2|k2
    · exact hn (.inl (.inr k2.symm))
    · omega
  · exact hn (.inr k1)⟩⟩
theorem Nx.Jw {v':Value}(k:Nx (fun _=>False) nb h v h' v'):Mv (eS nb v) (eS nb v') h h' :=
 ⟨k.ext.size,fun b hb hn=>⟨k.ext.block b hb (fun k=>k.elim hn id),fun k1=>by
  rcases k1 with k1|k1
  · exact hn (.inl k1)
  · rcases k.own b k1.symm with k2|k2
    · exact hn (.inr k2.symm)
    · omega⟩⟩
def HU (O:Nat→Prop) (nb:Nat) (h:aD) (v:Value) (st:Nat) (out:List b6×Nat) (r:Value) (h':aD):Prop:=∃v',r= .int .i64 (out.2:Nat)∧cy h' O nb v' out.1 st∧Nx (fun _=>False) nb h v h' v'
def GQ (n:Nat):Prop:=∀{x:Nd}{h:aD}{O:Nat→Prop}{nb:Nat}{v w:Value}{ss:List b6}{st to:Nat},nO x≤n→cy h O nb v ss st→(∀b,O b→b<h.size)→cq h (eS nb v) (dW x.kind x.set w) x→tI x=true→ss.length+nO x≤1000000 →
 ai Tryz.prog 63 #[.pointer (some ⟨nb,0,none⟩),.agg (dW x.kind x.set w).toArray,.int .i64 (to:Nat)] h (cL (HU O nb h v st (lay x ss to)))
theorem zh {x:b6}(hn:cy h O nb v ss st) (hO:∀b,O b→b<h.size) (hx:GL h (fun b=>eS nb v b∨O b) (DH x.kind x.set w x.rule) x) (hl:ss.length≤1000000) :
 ai Tryz.prog 64 #[.pointer (some ⟨nb,0,none⟩),.agg (DH x.kind x.set w x.rule).toArray] h (cL (HU O nb h v st (ss++[x],ss.length))) :=
 (ED hn hO hx hl).mono fun e h' r=>by
  obtain⟨u,he,v',hu,hn',hx',ho⟩:=r;exact⟨u,he,v',hu,hn',hx'.mono fun _ _ k=>.inl k,ho⟩
theorem IB (i:Nat):eV 0 i= .int .u64 0:=by simp[eV,BD]
theorem nr {to:List Nat}(hn:cy h O nb v ss st) (hO:∀b,O b→b<h.size) (hx:bU iz h (fun b=>eS nb v b∨O b) w to) (hl:ss.length≤1000000) :
 ai Tryz.prog 64 #[.pointer (some ⟨nb,0,none⟩),.agg #[.int .i64 0,.int .u64 0,.int .u64 0,.int .u64 0,.int .u64 0,w,.int .i64 0]] h (cL (HU O nb h v st (ss++[⟨0,0,to,0⟩],ss.length))):=by
 have h1:=zh (x:=⟨0,0,to,0⟩) hn hO ⟨w,rfl,hx⟩ hl;simp only[DH,IB] at h1;exact h1
theorem Mo (t:TypeId) (a:Nat) (ho:¬O h.size):bU iz (h.push (.cells #[.int .i64 (a:Nat)] t)) O (.slice (some ⟨h.size,0,none⟩) 1 1) [a]:=bU.n8 (e:=iz) (cs:=[eE a]) rfl ho
theorem Ll (t:TypeId) (a b:Nat) (ho:¬O h.size):bU iz (h.push (.cells #[.int .i64 (a:Nat),.int .i64 (b:Nat)] t)) O (.slice (some ⟨h.size,0,none⟩) 2 2) [a,b] :=
 ⟨_,2,2,rfl,rfl,Nat.le_refl _,by simp[maxLen],fun i x hx=>by
  refine⟨h.size,0,[eE x],rfl,ho,?_,rfl⟩;have hr:=pT h [.int .i64 (a:Nat),.int .i64 (b:Nat)] t;intro j u hj;have h0:j=0:=by have:=(List.getElem?_eq_some_iff.1 hj).1;simp at this;omega
  subst h0;simp only[List.getElem?_cons_zero,Option.some.injEq] at hj;subst hj
  match i with
  | 0=>simp at hx;subst hx;exact hr 0 _ rfl
  | 1=>simp at hx;subst hx;exact hr 1 _ rfl
  |i+2=>simp at hx⟩
theorem sj:∀(l:List Nd) (x:Nd) (ss:List b6) (to:Nat),bH (l++[x]) ss to=((lay x (bH l ss to).1 to).1,(bH l ss to).2++[(lay x (bH l ss to).1 to).2])
 | [],x,ss,to=>by simp[bH]
 |y::l,x,ss,to=>by
  rw[List.cons_append,bH,sj l x,bH];simp
theorem si {l:List Nd}{i:Nat}{x:Nd}(hx:l[i]? =some x) (ss:List b6) (to:Nat):bH (l.take (i+1)) ss to=((lay x (bH (l.take i) ss to).1 to).1,(bH (l.take i) ss to).2++[(lay x (bH (l.take i) ss to).1 to).2]):=by
 rw[List.take_add_one,hx,Option.toList_some,sj]
def H8 (nb b5 cap d:Nat) (r0:Loop) (hL:aD) (v sl:Value) (O:Nat→Prop) (kids:List Nd) (ss:List b6) (st to j:Nat) (g:aD):Prop :=
 ∃v',eu g (d+1) r0∧g[d]? =some (.deferred (some []))∧bq g cap 124 [sl]∧cy g (fun b=>O b∨(b5≤b∧b<hL.size)) nb v' (bR (kids.drop j) ss to).1 st ∧
  bq g b5 3 [.int .i64 ((bR (kids.drop j) ss to).2:Nat)]∧Nx (fun b=>b5≤b∧b<hL.size) nb hL v g v'
theorem kk {k j:Nat}(h:¬((k:Nat):Int)=(j:Nat)):¬k=j:=fun e=>h (by rw[e])
theorem FZ {n:Nat}(ih:GQ n):GQ (n+1):=by
 intro x h O nb v w ss st to hsz hn hO hx hw hl;obtain⟨k,s,kids⟩:=x;simp only[nO] at hsz hl;have hown:=hn.own;have hnb:=hn.blk.lt;obtain⟨w',hw',hkids⟩:=hx.open;have hww:w=w':=by simpa [dW] using hw'
 subst hww
 show ai _ _ #[_,.agg (dW k s w).toArray,_] h _
 replace hkids:bU su h (eS nb v) w kids:=hkids;obtain⟨oa,kn,kc,rfl,hsl⟩:=hkids.open;refine ai.of func63 rfl rfl ?_;refine xr func63 rfl ?_;refine xo rfl (aC.fe rfl) ?_;rintro _ h1 ⟨rfl,q3,e1,z1⟩;refine xo rfl (aC.fe rfl) ?_;rintro _ h2 ⟨rfl,q4,e2,z2⟩;refine xo rfl (aC.fe rfl) ?_;rintro _ h3 ⟨rfl,q5,e3,z3⟩;have q3:bq h1 h.size 90 [.pointer (some ⟨nb,0,none⟩)]:=q3;have q4:bq h2 h1.size 126 (dW k s (.slice oa kn kc)):=q4;have q5:bq h3 h2.size 3 [.int .i64 (to:Nat)]:=q5;have q3:=(q3.ax e2).ax e3;have q4:=q4.ax e3;have e03:aF h h3:=(e1.trans e2).trans e3;have hn3:cy h3 O nb v ss st:=hn.ax e03 (fun _ _ k=>k);have hO3:∀b,O b→b<h3.size:=fun b hb=>by have:=hO b hb;have:=e03.size;omega
 have nx3:Nx (fun _=>False) nb h v h3 v:=Nx.Jv e03;have hsl3:bU su h3 (eS nb v) (.slice oa kn kc) kids:=hkids.mv nx3.Jw
 have hnew3:∀b,h3.size≤b→¬(eS nb v b∨O b):=by
  have hz:=e03.size;rintro b hb ((k1|k1)|k1)
  · omega
  · have:=hown b k1.symm;omega
  · have:=hO b k1;omega
 have hnM:∀b,h.size≤b→¬(eS nb v b∨False):=by
  rintro b hb ((k1|k1)|k1)
  · omega
  · have:=hown b k1.symm;omega
  · exact k1
 have hkn:kids.length=kn:=hsl.len;have hwl:tJ kids=true:=by simp only[tI,Bool.and_eq_true] at hw;exact hw.2
 have hklen:=CM kids;refine aQ 1 [0,1,2,3,4,5,6] rfl ?_;refine av rfl ?_;refine xr func63 rfl ?_;refine xp rfl (af (off:=0) underlying126 rfl rfl H.bY rfl) ?_;refine xp rfl (ah H.cG rfl (q4.cell (i:=0) rfl)) ?_;refine xd [0,1,2,3,4,5,6,15] rfl ?_;refine G.block rfl rfl ?_;refine aW func63 2 [0,1,2,3,4,5,6,15,16] rfl ?_;refine aL rfl rfl (fun h1k=>?_) (fun h1k=>?_)
 · obtain rfl:k=1:=by omega
   have hlay:lay (.mk 1 s kids) ss to=(ss++[⟨1,s,[to],0⟩],ss.length):=by rw[lay];simp
   rw[hlay];refine xr func63 rfl ?_;refine xp rfl (ah H.tf rfl (q3.cell (i:=0) rfl)) ?_;refine xp rfl (af (off:=1) underlying126 rfl rfl H.lX rfl) ?_;refine xp rfl (aj.aG H.IK H.lX rfl (q4.part 1 (ds:=[eV s 0,eV s 1,eV s 2,eV s 3]) (by intro j v hv;match j with| 0=>exact hv| 1=>exact hv| 2=>exact hv| 3=>exact hv|j+4=>simp at hv)) (by first|rfl|(simp;done)|(simp;omega))) ?_;refine xp rfl (ah H.cG rfl (q5.cell (i:=0) rfl)) ?_;refine xo rfl (aC.aZ (us:=[_]) underlying121 H.qw rfl rfl (by decide) (by simp[Value.oneCell'])) ?_;rintro _ _ ⟨rfl,rfl⟩;refine xp rfl (aP (H.Bi _ _ _ _ _ _ _ _) rfl) ?_;refine xo rfl (aq (vs:=[_,_]) func64 rfl H.BZ rfl (ai.bw (zh (O:=O) (x:=⟨1,s,[to],0⟩) (hn3.ax (Ext.push _ _ _) (fun _ _ k=>k)) (fun b hb=>by have:=hO3 b hb;simp;omega) ⟨_,rfl,Mo _ to (hnew3 _ (Nat.le_refl _))⟩ (by omega)))) ?_;rintro _ h5 ⟨v',rfl,hn5,nx5⟩;refine aQ 1 [0,1,2,3,4,5,6,15,16] rfl ?_;refine G.ret func63 rfl rfl ?_;exact⟨_,rfl,v',rfl,hn5,(nx3.trans (Nx.Jv (Ext.push _ _ _)) (fun _ _ k=>k)).trans nx5 (fun _ _ k=>k)⟩
 · have h1k':¬k=1:=kk h1k;refine aW func63 2 [0,1,2,3,4,5,6,15,16,25] rfl ?_;refine aL rfl rfl (fun h2k=>?_) (fun h2k=>?_)
   · obtain rfl:k=2:=by omega
     have hlay:lay (.mk 2 s kids) ss to=bR kids ss to:=by rw[lay];simp
     rw[hlay];have hz0:=e03.size;refine av rfl ?_;refine xr func63 rfl ?_;refine xp rfl (af (off:=5) underlying126 rfl rfl H.zT rfl) ?_;refine xp rfl (ah H.vE rfl (q4.cell (i:=5) rfl)) ?_;refine xo rfl (aq (vs:=[_]) func111 rfl H.Kt rfl (ai.bw (vw (.slice oa kn kc) rfl))) ?_;rintro _ h4 ⟨rfl,hh4⟩;have e4:aF h3 h4:=by rw[hh4];exact Ext.push _ _ _
     have q6:bq h4 h3.size 124 [.slice oa kn kc]:=by rw[hh4];exact Dr _ _ _
     have z4:h4.size=h3.size+1:=by rw[hh4];simp
     clear hh4;refine xd [0,1,2,3,4,5,6,15,16,25,29] rfl ?_;refine G.block rfl rfl ?_;refine sL rfl rfl func145 rfl (by decide +kernel) ?_;intro fid tmps hfits;obtain⟨r0,hr0⟩:∃r0,r0=lz fid tmps #[30,31] (Mf (Lw.sub (aM f63) [0,1,0,0,1,1,1,0,1,0,1])) (Me (Lw.sub (aM f63) [0,1,0,0,1,1,1,0,1,0,1])) h4.size:=⟨_,rfl⟩
     obtain⟨hL,hhL⟩:∃hL,hL=(h4.push (.deferred (some []))).push (.loop r0):=⟨_,rfl⟩
     suffices hmain:ai Tryz.prog 145 #[.func (.yield (h4.size+1)) #[] #[],.pointer (some ⟨h3.size,0,none⟩)] hL _ by rw[hhL,hr0] at hmain;exact hmain
     have hst:r0.state= .ready:=by rw[hr0];rfl
     have hpn:r0.pending=none:=by rw[hr0];rfl
     have hps:r0.params= #[30,31]:=by rw[hr0];rfl
     have htm:r0.tmps=tmps:=by rw[hr0];rfl
     have eL:aF h4 hL:=by rw[hhL];exact(Ext.push _ _ _).trans (Ext.push _ _ _)
     have hLz:hL.size=h4.size+2:=by rw[hhL];simp
     have hloop0:eu hL (h4.size+1) r0:=by
      have hz:h4.size+1=(h4.push (.deferred (some []))).size:=by simp
      rw[eu,hhL,hz];exact Array.getElem?_push_size
     have hdef0:hL[h4.size]? =some (.deferred (some [])):=by
      rw[hhL,(Ext.push (fun _=>False) (h4.push (.deferred (some []))) _).block h4.size (by simp) (fun k=>k)];exact Array.getElem?_push_size
     clear hhL;have e0L:aF h hL:=(e03.trans e4).trans eL;have q3L:=(q3.ax e4).ax eL;have q5L:=(q5.ax e4).ax eL;have q6L:=q6.ax eL;have hnL:cy hL (fun b=>O b∨(h2.size≤b∧b<hL.size)) nb v ss st:=hn.ax e0L (fun b hb k=>k.elim id (fun k=>by omega));have hkL:bU su hL (fun b=>eS nb v b∨(h2.size≤b∧b<hL.size)) (.slice oa kn kc) kids:=hkids.mv ⟨e0L.size,fun b hb hn=>⟨e0L.block b hb (fun k=>k),fun k=>k.elim hn (fun k=>by omega)⟩⟩;have hdropn:kids.drop kn=[]:=List.drop_of_length_le (by omega);have hJ0:H8 nb h2.size h3.size h4.size r0 hL v (.slice oa kn kc) O kids ss st to kn hL:=⟨v,hloop0,hdef0,q6L,by rw[hdropn,bR];exact hnL,by rw[hdropn,bR];exact q5L,Nx.refl⟩
     have hvM:∀{v':Value}{g:aD},Nx (fun b=>h2.size≤b∧b<hL.size) nb hL v g v'→∀b,h.size≤b→b<hL.size→¬eS nb v' b:=by
      rintro v' g nx b hb hb' (k1|k1)
      · omega
      · rcases nx.own b k1.symm with k2|k2
        · have:=hown b k2;omega
        · omega
     refine suff (p:=∀j g,H8 nb h2.size h3.size h4.size r0 hL v (.slice oa kn kc) O kids ss st to (j+1) g→j<kn→∃(b o k s:Nat) (w:Value),oa=some ⟨b,o,none⟩∧Lw.rowAt g b (o+j*6) (dW k s w)∧lO Tryz.prog (h4.size+1) #[.int .i64 (j:Nat),.agg (dW k s w).toArray] g (cL fun r h'=>r= .bool true∧H8 nb h2.size h3.size h4.size r0 hL v (.slice oa kn kc) O kids ss st to j h')) ?_ fun hy=>?_
     · intro j g ⟨v',hlp,hdf,hcap,hng,hb5,nxg⟩ hj;obtain⟨x,hx⟩:∃x,kids[j]? =some x:=⟨_,List.getElem?_eq_getElem (by omega)⟩
       have hkg:=hkL.mv nxg.mv;obtain⟨oa',n',c',hv',_,_,_,hget⟩:=id hkg;cases hv';obtain⟨b,o,cs,ha,hob,hrow,hnd⟩:=hget j x hx;obtain⟨w2,rfl,-⟩:=hnd.open;refine⟨b,o,x.kind,x.set,w2,ha,hrow,?_⟩;have hcatd:=AU hx ss to;have hszx:=E2 hx;have hbl:=je (kids.drop (j+1)) ss to;have hfit:=AZ (p1:=30) (p2:=31) (v1:=.int .i64 (j:Nat)) (v2:=.agg (dW x.kind x.set w2).toArray) hfits rfl rfl;rw[←hps,←htm] at hfit;have hvg:=hvM nxg;have hzg:=nxg.ext.size;have q3g:=q3L.ext nxg.ext (fun k=>k.elim (hvM Nx.refl (v':=v) (g:=hL) _ (Nat.le_refl _) (by omega)) (fun k=>by omega));refine lO.of hlp hst (by rw[hps];rfl) hfit ((congrArg Loop.assign hr0).trans rfl) ((congrArg Loop.body hr0).trans rfl) ?_;refine gF.EK rfl rfl rfl rfl rfl (aC.aR H.jZ) ?_;rintro _ g1 ⟨rfl,k8,e1',zz1⟩;refine gF.bZ rfl rfl rfl rfl (aC.aB H.cv rfl rfl k8 (by first|rfl|(simp;done)|(simp;omega)) (by first|decide|exact of_decide_eq_true rfl|(simp;done)|(simp;omega)) (cq.one hnd)) ?_;rintro _ g2 ⟨rfl,k8',e2',zz2⟩;refine kP rfl ?_;have e12:aF g g2:=e1'.only e2' (Nat.le_refl _);have k8':bq g2 g.size 126 (dW x.kind x.set w2):=k8';refine⟨(e12.block _ hlp.lt (fun k=>k)).trans hlp,?_⟩;obtain⟨g3,hg3⟩:∃g3,g3=Lw.eR g2 (h4.size+1) (.loop { r0 with state:=.busy }):=⟨_,rfl⟩
       rw[←hg3];have hlz:=hlp.lt;have hz2:=e12.size;have e23:Ext (fun b=>b=h4.size+1) g2 g3:=by rw[hg3];exact Ext.eR _ _ _ rfl
       have hlp3:eu g3 (h4.size+1) { r0 with state:=.busy }:=by rw[eu,hg3];exact nG (by omega)
       have hz3:=e23.size;have e13:Ext (fun b=>b=h4.size+1) g g3:=(e12.mono fun _ _ k=>k.elim).trans e23;have l3:¬h.size=h4.size+1:=by omega
       have l5:¬h2.size=h4.size+1:=by omega
       have l6:¬h3.size=h4.size+1:=by omega
       have l8:¬g.size=h4.size+1:=by omega
       have ld:¬h4.size=h4.size+1:=by omega
       have q33:=q3g.ext e13 l3;have b53:=hb5.ext e13 l5;have cap3:=hcap.ext e13 l6;have k83:=k8'.ext e23 l8;have hown':∀b,v'.ownBlock=some b→¬b=h4.size+1:=fun b hb k=>hvg b (by omega) (by omega) (.inr hb.symm)
       have hn3g:cy g3 (fun b=>O b∨(h2.size≤b∧b<hL.size)) nb v' (bR (kids.drop (j+1)) ss to).1 st:=hng.ext e13 (by omega) hown' (fun b _ k=>.inr (by omega)) (fun b _ k=>k);have hnd3:cq g3 (eS nb v') (dW x.kind x.set w2) x:=hnd.mv ⟨e13.size,fun b hb hn=>⟨e13.block b hb (fun k=>hn (.inr (by omega))),fun k=>hn (.inl k)⟩⟩;refine gF.au rfl rfl rfl rfl rfl (ah H.tf rfl (q33.cell (i:=0) rfl)) ?_;refine gF.au rfl rfl rfl rfl rfl (aj.aG H.eX H.cv rfl k83.row (by first|rfl|(simp;done)|(simp;omega))) ?_;refine gF.au rfl rfl rfl rfl rfl (ah H.cG rfl (b53.cell (i:=0) rfl)) ?_;refine gF.EK rfl rfl rfl rfl rfl (aq (vs:=[_,_,_]) func63 rfl H.D2 rfl (ai.bw (ih (x:=x) (O:=fun b=>O b∨(h2.size≤b∧b<hL.size)) (to:=(bR (kids.drop (j+1)) ss to).2) (by omega) hn3g (fun b hb=>by rcases hb with k|k;(have:=hO b k;omega);omega) hnd3 (xV hwl hx) (by omega)))) ?_;rintro _ g4 ⟨v4,rfl,hn4,nx4⟩;have hM4:∀b,h.size≤b→b<hL.size→¬(eS nb v' b∨False):=fun b h1 h2 k=>k.elim (hvg b h1 h2) id
       have b54:=b53.ext nx4.ext (hM4 _ (by omega) (by omega));refine gF.bZ rfl rfl rfl rfl (aC.bF H.bY rfl rfl b54 (by first|decide|exact of_decide_eq_true rfl|(simp;done)|(simp;omega)) rfl) ?_;rintro _ g5 ⟨rfl,b55,e5',zz5⟩;refine kP rfl ?_;have b55:bq g5 h2.size 3 [.int .i64 ((lay x (bR (kids.drop (j+1)) ss to).1 (bR (kids.drop (j+1)) ss to).2).2:Nat)]:=b55;have hz4:=nx4.ext.size;have nx45:Nx (fun b=>h2.size≤b∧b<hL.size) nb g3 v' g5 v4:=⟨⟨by omega,fun b hb hn=>by rw[e5'.block b (by omega) (fun k=>hn (.inr (by omega))),nx4.ext.block b hb (fun k=>hn (k.elim .inl (fun k=>k.elim)))]⟩,nx4.own⟩
       have hlp5:eu g5 (h4.size+1) { r0 with state:=.busy }:=(hlp3.ext nx4.ext (hM4 _ (by omega) (by omega))).ext e5' (fun k=>by omega);have hr2:({ ({ r0 with state:=.busy }:Loop) with state:=.ready,pending:=none }:Loop)=r0:=by cases r0;simp at hst hpn;simp[hst,hpn]
       refine⟨_,hlp5,rfl,?_⟩;rw[hr2];have e56:Ext (fun b=>b=h4.size+1) g5 (Lw.eR g5 (h4.size+1) (.loop r0)):=Ext.eR _ _ _ rfl
       have hown4:∀b,v4.ownBlock=some b→¬b=h4.size+1∧¬b=h2.size:=fun b hb=>by
        rcases nx4.own b hb with k|k
        · exact⟨hown' b k,fun k'=>hvg b (by omega) (by omega) (.inr k.symm)⟩
        · omega
       have hdf5:g5[h4.size]? =some (.deferred (some [])):=by
        rw[e5'.block h4.size (by omega) (by omega),nx4.ext.block h4.size (by omega) (hM4 _ (by omega) (by omega)),e13.block h4.size (by omega) (by omega)];exact hdf
       have cap5:=(cap3.ext nx4.ext (hM4 _ (by omega) (by omega))).ext e5' (by omega);refine⟨v4,nG (by omega),by rw[e56.block h4.size (by omega) (by omega)];exact hdf5,cap5.ext e56 l6,?_,?_,?_⟩
       · rw[hcatd];have hn5:cy g5 (fun b=>O b∨(h2.size≤b∧b<hL.size)) nb v4 (lay x (bR (kids.drop (j+1)) ss to).1 (bR (kids.drop (j+1)) ss to).2).1 st:=hn4.ext e5' (by omega) (fun b hb=>(hown4 b hb).2) (fun b _ k=>.inr (by omega)) (fun _ _ k=>k);exact hn5.ext e56 (by omega) (fun b hb=>(hown4 b hb).1) (fun b _ k=>.inr (by omega)) (fun _ _ k=>k)
       · rw[hcatd];exact b55.ext e56 l5
       · exact((nxg.trans ⟨e13.mono (fun b _ k=>.inr (by omega)),fun b k=>.inl k⟩ (fun b _ k=>k)).trans nx45 (fun b _ k=>k)).trans ⟨e56.mono (fun b _ k=>.inr (by omega)),fun b k=>.inl k⟩ (fun b _ k=>k)
     · refine(s8 (l:=h4.size+1) (cap:=h3.size) (n:=kn) (c:=kc) (J:=H8 nb h2.size h3.size h4.size r0 hL v (.slice oa kn kc) O kids ss st to) (by omega) (fun j g hJ=>by obtain⟨_,_,_,k,_⟩:=hJ;exact k.cell (i:=0) rfl) hy hJ0).mono fun e g hJ=>?_
       obtain⟨u,rfl,v',hlp,hdf,hcap,hng,hb5,nxg⟩:=hJ;rw[List.drop_zero] at hng hb5;refine⟨_,rfl,r0,hlp,by rw[hst];decide,hpn,?_⟩;have hzg:=nxg.ext.size;have hlz:=hlp.lt;have e1:Ext (fun b=>b=h4.size+1) g (Lw.eR g (h4.size+1) (.loop { r0 with state:=.exhausted })):=Ext.eR _ _ _ rfl;have b5e:=hb5.ext e1 (by omega);have hdfe:=(e1.block h4.size (by omega) (by omega)).trans hdf;have hvg:=hvM nxg;refine GD.aN ?_;refine pF rfl ?_;refine GD.bT func63 rfl ?_;refine jt.au rfl rfl rfl rfl (ah H.cG rfl (b5e.cell (i:=0) rfl)) ?_;refine jt.au rfl rfl rfl rfl (aj.assign rfl) ?_;refine kQ rfl ?_;refine GD.sub (ρ':=[(0,_),(1,_),(2,_),(3,_),(4,_),(5,_),(6,_),(15,_),(16,_),(25,_),(29,_)]) ⟨rfl,rfl,rfl,rfl,rfl,rfl,rfl,rfl,rfl,rfl,rfl,trivial⟩ ?_;refine GD.CX func63 rfl hdfe rfl ?_;have e2:Ext (fun b=>b=h4.size) (Lw.eR g (h4.size+1) (.loop { r0 with state:=.exhausted })) (Lw.eR (Lw.eR g (h4.size+1) (.loop { r0 with state:=.exhausted })) h4.size (.deferred none)):=Ext.eR _ _ _ rfl;have e12:Ext (fun b=>b=h4.size+1∨b=h4.size) g _:=(e1.mono fun _ _ k=>.inl k).trans (e2.mono fun _ _ k=>.inr k);have hownv:∀b,v'.ownBlock=some b→¬(b=h4.size+1∨b=h4.size):=fun b hb k=>hvg b (by omega) (by omega) (.inr hb.symm)
       refine⟨_,rfl,v',rfl,hng.ext e12 (by omega) hownv (fun b _ k=>.inr (by omega)) (fun b _ k=>.inl k),?_⟩;have nxe:Nx (fun b=>h2.size≤b) nb h v _ v':=((Nx.Jv e0L).trans nxg (fun b _ k=>k.1)).trans ⟨e12.mono (fun b _ k=>.inr k),fun b k=>.inl k⟩ (fun b hb k=>by omega);exact nxe.mono (fun b hb k=>by omega)
   · have h2k':¬k=2:=kk h2k;refine aW func63 2 [0,1,2,3,4,5,6,15,16,25,37] rfl ?_;refine aL rfl rfl (fun h3k=>?_) (fun h3k=>?_)
     · obtain rfl:k=3:=by omega
       have hlay:lay (.mk 3 s kids) ss to=((bH kids ss to).1++[⟨0,0,(bH kids ss to).2,0⟩],(bH kids ss to).1.length):=by rw[lay];simp
       rw[hlay];refine aW func63 1 [0,1,2,3,4,5,6,9,15,16,25,37] rfl ?_;refine av rfl ?_;refine xr func63 rfl ?_;refine xp rfl (af (off:=5) underlying126 rfl rfl H.zT rfl) ?_;refine xp rfl (ah H.vE rfl (q4.cell (i:=5) rfl)) ?_;refine xp rfl (aj.aJ underlying124 rfl) ?_;refine aQ 1 [0,1,2,3,4,5,6,9,15,16,25,37,40,41,42] rfl ?_;refine G.block rfl rfl ?_;refine bE (σ:=Nat×Value) (fun p=>[(3,.pointer (some ⟨h.size,0,none⟩)),(5,.pointer (some ⟨h2.size,0,none⟩)),(9,p.2),(40,.slice oa kn kc),(41,.int .i64 (kn:Nat)),(42,.int .i64 (p.1:Nat))]) (fun p h'=>p.1≤kn∧∃v',cy h' (fun b=>O b∨cT p.2.ownBlock b) nb v' (bH (kids.take p.1) ss to).1 st∧dD iz (fun _=>True) h' h3.size 3 p.2 (bH (kids.take p.1) ss to).2∧Nx (fun _=>False) nb h3 v h' v'∧(∀b,p.2.ownBlock=some b→v'.ownBlock≠some b)) (fun p=>kn-p.1) ((0,.slice none 0 0)) rfl ⟨rfl,rfl,rfl,rfl,rfl,rfl,trivial⟩ ⟨Nat.zero_le _,v,by simpa [bH] using hn3.ax (Ext.refl _ _) (fun b _ k=>k.elim id (fun k=>by cases k)),by simpa [bH] using dD.nil iz (fun _=>True) h3 h3.size 3,Nx.refl,fun b hb=>by cases hb⟩ ?_;rintro⟨i,t9⟩ gh ⟨hi,v',hnH,htH,nxH,hdist⟩ ih2
       try dsimp only
       dsimp only at hi hnH htH nxH hdist;have hzH:=nxH.ext.size;have hz0:=e03.size;have q3H:=q3.ext nxH.ext (hnM _ (Nat.le_refl _));have q5H:=q5.ext nxH.ext (hnM _ (by omega));have hslH:bU su gh (eS nb v') (.slice oa kn kc) kids:=hsl3.mv nxH.Jw;have ht9:∀b,t9.ownBlock=some b→h3.size≤b∧b<gh.size:=fun b hb=>by obtain⟨_,_,k,_⟩:=id htH;exact k.lt hb
       have hlenT:(bH (kids.take i) ss to).2.length=i:=by rw[mP,List.length_take];omega
       refine aW func63 1 [3,5,9,40,41,42,43] rfl ?_;refine av rfl ?_;refine aL rfl rfl (fun hlt=>?_) (fun hlt=>?_)
       · have hik:i<kids.length:=by omega
         obtain⟨x,hx⟩:∃x,kids[i]? =some x:=⟨_,List.getElem?_eq_getElem hik⟩
         obtain⟨oa',n',c',hv',_,_,_,hget⟩:=id hslH;cases hv';obtain⟨b,o,cs,ha,hob,hrow,hnd⟩:=hget i x hx;obtain⟨w2,rfl,-⟩:=hnd.open;have hszx:=E1 hx;have hbl:=fA (kids.take i) ss to;refine aE rfl ?_;refine av rfl ?_;refine G.block rfl rfl ?_;refine xr func63 rfl ?_;refine xp rfl (aj.ay underlying124 H.cv rfl rfl i rfl ha (by omega)) ?_;refine xp rfl (aj.aG H.eX H.cv rfl hrow (by first|rfl|(simp;done)|(simp;omega))) ?_;refine xo rfl (aC.aR H.jZ) ?_;rintro _ h5 ⟨rfl,q11,e5,z5⟩;refine RW.bZ rfl rfl rfl (aC.aB H.cv rfl rfl q11 (by first|rfl|(simp;done)|(simp;omega)) (by first|decide|exact of_decide_eq_true rfl|(simp;done)|(simp;omega)) (cq.one hnd)) ?_;rintro _ h6 ⟨rfl,q11',e6,z6⟩;have e56:aF gh h6:=e5.only e6 (Nat.le_refl _);have q11':bq h6 gh.size 126 (dW x.kind x.set w2):=q11';have hn6:cy h6 (fun b=>O b∨cT t9.ownBlock b) nb v' (bH (kids.take i) ss to).1 st:=hnH.ax e56 (fun _ _ k=>k);have nx6:Nx (fun _=>False) nb gh v' h6 v':=Nx.Jv e56;have hz6:=e56.size;have hnd6:=hnd.mv nx6.Jw;refine xd [3,5,9,11,40,41,42,43] rfl ?_;refine G.bT func63 rfl ?_;refine bP 1 rfl rfl (ah H.tf rfl ((q3H.ax e56).cell (i:=0) rfl)) ?_;refine xp rfl (aj.aG H.eX H.cv rfl q11'.row (by first|rfl|(simp;done)|(simp;omega))) ?_;refine xp rfl (ah H.cG rfl ((q5H.ax e56).cell (i:=0) rfl)) ?_;refine xo rfl (aq (vs:=[_,_,_]) func63 rfl H.D2 rfl (ai.bw (ih (x:=x) (O:=fun b=>O b∨cT t9.ownBlock b) (to:=to) (by omega) hn6 (fun b hb=>by rcases hb with k|k;(have:=hO3 b k;omega);(have:=ht9 b k.symm;omega)) hnd6 (xV hwl hx) (by omega)))) ?_;rintro _ h7 ⟨v7,rfl,hn7,nx7⟩
         have ht7:dD iz (fun _=>True) h7 h3.size 3 t9 (bH (kids.take i) ss to).2:=(htH.ax e56).pG nx7.ext (fun b hb=>by
          rintro((k1|k1)|k1)
          · have:=ht9 b hb;omega
          · exact hdist b hb k1.symm
          · exact k1) (fun _ _ _=>trivial) (fun _ _ _=>trivial)
         obtain⟨css,hc1,hc2,hc3⟩:=id ht7;have hz7:=nx7.ext.size;refine xo rfl (aC.aZ (us:=[_]) underlying121 H.qw rfl rfl (by decide) (by simp[Value.oneCell'])) ?_;rintro _ _ ⟨rfl,rfl⟩;refine xo rfl (aC.bO underlying121 H.qw rfl rfl (hc2) rfl rfl (by first|decide|simp[Value.oneCell']) (by omega) (by decide) (by omega)) ?_;rintro t9' h8 ⟨ho8,hx8,-,hv8⟩;refine aQ 1 [3,5,9,11,40,41,42,43] rfl ?_;refine G.aN ?_;refine G.bT func63 rfl ?_;refine xp rfl (aj.bA rfl rfl ⟨by omega,by omega⟩) ?_;refine aQ 1 [3,5,9,11,40,41,42,43] rfl ?_;have ht8:dD iz (fun _=>True) h8 h3.size 3 t9' ((bH (kids.take i) ss to).2++[(lay x (bH (kids.take i) ss to).1 to).2]):=dD.fV hc1 hc3 ho8 hx8 hv8 rfl
         have hn8:cy h8 (fun b=>O b∨cT t9'.ownBlock b) nb v7 (lay x (bH (kids.take i) ss to).1 to).1 st:=hn7.ext hx8 (fun k=>by have:=ht9 nb k.symm;omega) (fun b hb k=>by
          rcases nx7.own b hb with k'|k'
          · exact hdist b k.symm k'
          · have:=ht9 b k.symm;omega) (fun b _ k=>.inr k) (fun b hb k=>k.imp id (fun k=>by
            rcases hv8 b k.symm with k'|k'
            · exact k'.symm
            · omega))
         have hd8:∀b,t9'.ownBlock=some b→v7.ownBlock≠some b:=fun b hb k=>by
          rcases hv8 b hb with k'|k'
          · rcases nx7.own b k with k2|k2
            · exact hdist b k' k2
            · have:=ht9 b k';omega
          · have:=(hn7.own b k).2;omega
         exact ih2 (i+1,t9') _ _ ⟨rfl,rfl,rfl,rfl,rfl,rfl,trivial⟩ ⟨by show i+1≤kn;omega,v7,by rw[si hx];exact hn8,by rw[si hx];exact ht8,⟨⟨by have:=hx8.size;omega,fun b hb hn=>by rw[hx8.block b (by omega) (fun k=>by have:=ht9 b k.symm;omega)];exact((nxH.trans nx6 (fun _ _ k=>k)).trans nx7 (fun _ _ k=>k)).ext.block b hb hn⟩,((nxH.trans nx6 (fun _ _ k=>k)).trans nx7 (fun _ _ k=>k)).own⟩,hd8⟩ (by show kn-(i+1)<kn-i;omega)
       · obtain rfl:i=kn:=by omega
         have hall:kids.take i=kids:=List.take_of_length_le (by omega);rw[hall] at hnH htH hlenT;have hbl:=fA kids ss to
         have hrd:bU iz gh (fun b=>eS nb v' b∨O b) t9 (bH kids ss to).2:=htH.CY (fun b hb=>by
          rintro((k1|k1)|k1)
          · have:=ht9 b hb;omega
          · exact hdist b hb k1.symm
          · have:=ht9 b hb;have:=hO3 b k1;omega) (fun _ _ _=>trivial)
         obtain⟨oa9,n9,c9,rfl,_⟩:=id hrd;refine bz rfl rfl ?_;refine xr func63 rfl ?_;refine xp rfl (ah H.tf rfl (q3H.cell (i:=0) rfl)) ?_;refine bP 1 rfl rfl (aP (H.zc _ _ _) rfl) ?_;refine xo rfl (aq (vs:=[_,_]) func64 rfl H.BZ rfl (ai.bw (nr (O:=O) (hnH.ax (Ext.refl _ _) (fun b _ k=>.inl k)) (fun b hb=>by have:=hO3 b hb;omega) hrd (by omega)))) ?_;rintro _ h5 ⟨v5,rfl,hn5,nx5⟩;refine aQ 1 [3,5,6,9,40,41,42,43] rfl ?_;refine G.ret func63 rfl rfl ?_;exact⟨_,rfl,v5,rfl,hn5,(nx3.trans nxH (fun _ _ k=>k)).trans nx5 (fun _ _ k=>k)⟩
     · have h3k':¬k=3:=kk h3k;refine aW func63 2 [0,1,2,3,4,5,6,15,16,25,37,58] rfl ?_;refine aL rfl rfl (fun h6k=>?_) (fun h6k=>?_)
       · obtain rfl:k=6:=by omega
         have hone:kids.length=1:=by simp[tI] at hw;exact hw.1
         obtain⟨x,rfl⟩:∃x,kids=[x]:=by match kids,hone with| [x],_=>exact⟨x,rfl⟩
         have hkn1:kn=1:=by simpa using hkn.symm
         have hszx:nO x≤gr [x]:=by simp[gr]
         have hwx:tI x=true:=by simpa [tJ] using hwl
         have hlay:lay (.mk 6 s [x]) ss to=((lay x ss to).1++[⟨0,0,[(lay x ss to).2,to],0⟩],(lay x ss to).1.length):=by rw[lay];simp[cC]
         rw[hlay];have hz0:=e03.size;obtain⟨oa',n',c',hv',_,_,_,hget⟩:=id hsl3;cases hv';obtain⟨b,o,cs,ha,hob,hrow,hnd⟩:=hget 0 x rfl;obtain⟨w2,rfl,-⟩:=hnd.open
         have hnM3:∀b,h.size≤b→b<h3.size→¬(eS nb v b∨h3.size≤b):=by
          rintro b hb hb' ((k1|k1)|k1)
          · omega
          · have:=hown b k1.symm;omega
          · omega
         have hbM:¬(eS nb v b∨h3.size≤b):=by
          rintro(k1|k1)
          · exact hob k1
          · have:=eM hrow (by simp[dW]);omega
         have m3:=hnM3 h.size (Nat.le_refl _) (by omega);have m4:=hnM3 h1.size (by omega) (by omega);have m5:=hnM3 h2.size (by omega) (by omega);have hlenx:=fP x ss to;refine av rfl ?_;refine bV (fun b=>eS nb v b∨Array.size h3≤b) (fun i=>Nat.blt i 13) (sz:=13) (listed:= #[false,false,false,false,false,false,false,false,false,false,false,false,false]) func63 H.mixed rfl rfl rfl ?_;refine bI 0 1 (by kernel_rfl) rfl (fun h' e=>ah H.tf rfl (e.cell m3 (q3.cell (i:=0) rfl))) ?_;refine bI 1 3 (by kernel_rfl) rfl (fun h' e=>ah H.tf rfl (e.cell m3 (q3.cell (i:=0) rfl))) ?_;refine bI 2 7 (by kernel_rfl) rfl (fun h' e=>af (off:=5) underlying126 rfl rfl H.zT rfl) ?_;refine bI 3 15 (by kernel_rfl) rfl (fun h' e=>ah H.vE rfl (e.cell m4 (q4.cell (i:=5) rfl))) ?_;refine bI 4 31 (by kernel_rfl) rfl (fun h' e=>aj.ay underlying124 H.cv rfl rfl 0 rfl ha (by omega)) ?_;refine bI 5 63 (by kernel_rfl) rfl (fun h' e=>aj.aG H.eX H.cv rfl (e.rowAt hbM hrow) (by first|rfl|(simp;done)|(simp;omega))) ?_;refine bI 6 127 (by kernel_rfl) rfl (fun h' e=>ah H.cG rfl (e.cell m5 (q5.cell (i:=0) rfl))) ?_;refine bI 8 383 (by kernel_rfl) rfl (fun h' e=>ah H.cG rfl (e.cell m5 (q5.cell (i:=0) rfl))) ?_;refine cU 7 511 (by kernel_rfl) rfl (aq (vs:=[_,_,_]) func63 rfl H.D2 rfl (ai.bw (ih (x:=x) (O:=O) (to:=to) (by omega) hn3 hO3 hnd hwx (by omega)))) ?_;rintro _ h5 ⟨v5,rfl,hn5,nx5⟩;refine⟨fun _=>nx5.ext.mono (fun b _ k=>k.elim .inl (fun k=>k.elim)),?_⟩;have hz5:=nx5.ext.size;have hown5:=hn5.own
         have hnew5:∀t,bU iz (h5.push (.cells #[.int .i64 ((lay x ss to).2:Nat),.int .i64 (to:Nat)] t)) (fun b=>eS nb v5 b∨O b) (.slice (some ⟨h5.size,0,none⟩) 2 2) [(lay x ss to).2,to]:=fun t=>Ll t _ _ (by
          rintro((k1|k1)|k1)
          · omega
          · have:=hown5 _ k1.symm;omega
          · have:=hO3 _ k1;omega)
         refine cU 9 1023 (by kernel_rfl) rfl (aC.aZ (us:=[_,_]) underlying121 H.qw rfl rfl (by decide) (by simp[Value.oneCell'])) ?_;rintro _ _ ⟨rfl,rfl⟩;refine⟨fun _=>by first|exact Ext.push _ _ _|assumption,?_⟩;refine bI 10 2047 (by kernel_rfl) rfl (fun h' e=>aP (H.zc _ _ _) rfl) ?_;refine cU 11 4095 (by kernel_rfl) rfl (aq (vs:=[_,_]) func64 rfl H.BZ rfl (ai.bw (nr (O:=O) (hn5.ax (Ext.push _ _ _) (fun _ _ k=>k)) (fun b hb=>by have:=hO3 b hb;simp;omega) (hnew5 _) (by omega)))) ?_;rintro _ h6 ⟨v6,rfl,hn6,nx6⟩;refine⟨fun _=>nx6.ext.mono (fun b _ k=>by rcases k with (k1|k1)|k1;(exact .inl (.inl k1));(rcases nx5.own b k1.symm with k2|k2;(exact .inl (.inr k2.symm));exact .inr k2);exact k1.elim),?_⟩;refine b9 12 8191 (by kernel_rfl) rfl ?_;refine bg (by kernel_rfl) ?_;refine xu [0,1,2,3,4,5,6,15,16,25,37,58] rfl ?_;refine G.ret func63 rfl rfl ?_;exact⟨_,rfl,v6,rfl,hn6,((nx3.trans nx5 (fun _ _ k=>k)).trans (Nx.Jv (Ext.push _ _ _)) (fun _ _ k=>k)).trans nx6 (fun _ _ k=>k)⟩
       · have h6k':¬k=6:=kk h6k;refine av rfl ?_;refine aW func63 2 [0,1,2,3,4,5,6,15,16,25,37,58,72] rfl ?_;refine aL rfl rfl (fun h4k=>?_) (fun h4k=>?_)
         · obtain rfl:k=4:=by omega
           have hone:kids.length=1:=by simp[tI] at hw;exact hw.1
           obtain⟨x,rfl⟩:∃x,kids=[x]:=by match kids,hone with| [x],_=>exact⟨x,rfl⟩
           have hkn1:kn=1:=by simpa using hkn.symm
           have hszx:nO x≤gr [x]:=by simp[gr]
           have hwx:tI x=true:=by simpa [tJ] using hwl
           have hlay:lay (.mk 4 s [x]) ss to=((lay x (ss++[⟨0,0,[],0⟩]) ss.length).1.set ss.length ⟨0,0,[(lay x (ss++[⟨0,0,[],0⟩]) ss.length).2,to],0⟩,ss.length):=by rw[lay];simp[cC]
           rw[hlay];refine aE rfl ?_;refine aI rfl rfl (fun _=>?_) (fun hc=>absurd hc (by simp));refine xr func63 rfl ?_;refine xp rfl (ah H.tf rfl (q3.cell (i:=0) rfl)) ?_;refine xp rfl (aP (H.Gz ) rfl) ?_;refine xo rfl (aq (vs:=[_,_]) func64 rfl H.BZ rfl (ai.bw (nr (O:=O) (to:=[]) hn3 hO3 (bU.nil _ _ _) (by omega)))) ?_;rintro _ h5 ⟨v5,rfl,hn5,nx5⟩;have hz5:=nx5.ext.size;have hz0:=e03.size;have q3':=q3.ext nx5.ext (hnM _ (Nat.le_refl _));have q4':=q4.ext nx5.ext (hnM _ (by omega));have q5':=q5.ext nx5.ext (hnM _ (by omega));have hsl5:bU su h5 (eS nb v5) (.slice oa kn kc) [x]:=hsl3.mv nx5.Jw;obtain⟨oa',n',c',hv',_,_,_,hget⟩:=id hsl5;cases hv';obtain⟨b,o,cs,ha,hob,hrow,hnd⟩:=hget 0 x rfl;obtain⟨w2,rfl,-⟩:=hnd.open;have hown5:=hn5.own
           have hnM5:∀b,h.size≤b→b<h3.size→¬(eS nb v5 b∨h5.size≤b):=by
            rintro b hb hb' ((k1|k1)|k1)
            · omega
            · rcases nx5.own b k1.symm with k2|k2
              · have:=hown b k2;omega
              · omega
            · omega
           have hbM:¬(eS nb v5 b∨h5.size≤b):=by
            rintro(k1|k1)
            · exact hob k1
            · have:=eM hrow (by simp[dW]);omega
           have m3:=hnM5 h.size (Nat.le_refl _) (by omega);have m4:=hnM5 h1.size (by omega) (by omega);refine aQ 1 [0,1,2,3,4,5,6,12,15,16,25,37,58,72] rfl ?_;refine av rfl ?_;refine bV (fun b=>eS nb v5 b∨Array.size h5≤b) (fun i=>Nat.blt i 8) (sz:=8) (listed:= #[false,false,false,false,false,false,false,false]) func63 H.mixed rfl rfl rfl ?_;refine bI 0 1 (by kernel_rfl) rfl (fun h' e=>ah H.tf rfl (e.cell m3 (q3'.cell (i:=0) rfl))) ?_;refine bI 1 3 (by kernel_rfl) rfl (fun h' e=>af (off:=5) underlying126 rfl rfl H.zT rfl) ?_;refine bI 2 7 (by kernel_rfl) rfl (fun h' e=>ah H.vE rfl (e.cell m4 (q4'.cell (i:=5) rfl))) ?_;refine bI 3 15 (by kernel_rfl) rfl (fun h' e=>aj.ay underlying124 H.cv rfl rfl 0 rfl ha (by omega)) ?_;refine bI 4 31 (by kernel_rfl) rfl (fun h' e=>aj.aG H.eX H.cv rfl (e.rowAt hbM hrow) (by first|rfl|(simp;done)|(simp;omega))) ?_;refine b9 5 63 (by kernel_rfl) rfl ?_;refine cU 6 127 (by kernel_rfl) rfl (aq (vs:=[_,_,_]) func63 rfl H.D2 rfl (ai.bw (ih (x:=x) (O:=O) (to:=ss.length) (by omega) hn5 (fun b hb=>by have:=hO3 b hb;omega) hnd hwx (by simp;omega)))) ?_;rintro _ h6 ⟨v6,rfl,hn6,nx6⟩;refine⟨fun _=>nx6.ext.mono (fun b _ k=>k.elim .inl (fun k=>k.elim)),?_⟩;have hz6:=nx6.ext.size;have nx36:=nx5.trans nx6 (fun _ _ k=>k);have q3':=q3.ext nx36.ext (hnM _ (Nat.le_refl _));have q4':=q4.ext nx36.ext (hnM _ (by omega));have q5':=q5.ext nx36.ext (hnM _ (by omega));have hown6:=hn6.own;have hlen6:=fP x (ss++[⟨0,0,[],0⟩]) ss.length;rw[List.length_append,List.length_singleton] at hlen6;have hpre:(lay x (ss++[⟨0,0,[],0⟩]) ss.length).1[ss.length]? =some ⟨0,0,[],0⟩:=by rw[lD x _ _ _ (by simp)];simp
           have hn6c:=hn6.blk.cell (i:=0) rfl
           have hnM6:∀b,h.size≤b→b<h3.size→¬(eS nb v6 b∨h6.size≤b):=by
            rintro b hb hb' ((k1|k1)|k1)
            · omega
            · rcases nx36.own b k1.symm with k2|k2
              · have:=hown b k2;omega
              · omega
            · omega
           have hnew6:∀t,bU iz (h6.push (.cells #[.int .i64 ((lay x (ss++[⟨0,0,[],0⟩]) ss.length).2:Nat),.int .i64 (to:Nat)] t)) (fun b=>cT v6.ownBlock b∨b=nb∨O b) (.slice (some ⟨h6.size,0,none⟩) 2 2) [(lay x (ss++[⟨0,0,[],0⟩]) ss.length).2,to]:=fun t=>Ll t _ _ (by
            rintro(k1|k1|k1)
            · have:=hown6 _ k1.symm;omega
            · omega
            · have:=hO3 _ k1;omega)
           generalize hout:lay x (ss++[⟨0,0,[],0⟩]) ss.length=out at *;have hn7:cy (h6.push (.cells #[.int .i64 (out.2:Nat),.int .i64 (to:Nat)] 3)) O nb v6 out.1 st:=hn6.ax (Ext.push _ _ _) (fun _ _ k=>k);obtain⟨g,c6,cs6,hv6,hg1,hg2,hg3,hg4,hg5,hg6⟩:=hn7.row.put hpre;obtain⟨w6,rfl,_⟩:=hg5;subst hv6;have hput:=hg6 5 (.slice (some ⟨h6.size,0,none⟩) 2 2) ⟨0,0,[out.2,to],0⟩ (by decide) ⟨_,rfl,hnew6 _⟩;have hgb:h6.size=g∨g<h6.size:=by have:=hown6 g rfl;omega
           have hg6':g<h6.size:=(hown6 g rfl).2;have hcell7:cellAt (h6.push (.cells #[.int .i64 (out.2:Nat),.int .i64 (to:Nat)] 3)) ⟨g,0+ss.length*7+5,none⟩=some w6:=hg3 5 _ rfl;have m6:=hnM6 h1.size (by omega) (by omega);have j4:¬h1.size=g:=fun k=>m6 (.inl (.inr (by rw[k];rfl)))
           have j3:¬h6.size≤h.size:=by omega
           have j0:¬h6.size≤nb:=by omega
           have j5:¬h6.size≤h2.size:=by omega
           refine b9 7 255 (by kernel_rfl) rfl ?_;refine bg (by kernel_rfl) ?_;refine xu [0,1,2,3,4,5,6,12,13,15,16,25,37,58,72] rfl ?_;refine av rfl ?_;refine bV (fun b=>Array.size h6≤b) (fun i=>Nat.blt i 10) (sz:=11) (listed:= #[false,false,false,false,false,false,false,false,false,false,false]) func63 H.mixed rfl rfl rfl ?_;refine bI 0 1 (by kernel_rfl) rfl (fun h' e=>ah H.tf rfl (e.cell j3 (q3'.cell (i:=0) rfl))) ?_;refine b9 1 3 (by kernel_rfl) rfl ?_;refine bI 2 7 (by kernel_rfl) rfl (fun h' e=>af (off:=0) underlying120 rfl rfl H.gv rfl) ?_;refine bI 3 15 (by kernel_rfl) rfl (fun h' e=>ah H.iw rfl (e.cell j0 hn6c)) ?_;refine b9 4 31 (by kernel_rfl) rfl ?_;refine b9 5 63 (by kernel_rfl) rfl ?_;refine bI 6 127 (by kernel_rfl) rfl (fun h' e=>ah H.cG rfl (e.cell j5 (q5'.cell (i:=0) rfl))) ?_;refine cU 7 255 (by kernel_rfl) rfl (aC.aZ (us:=[_,_]) underlying121 H.qw rfl rfl (by decide) (by simp[Value.oneCell'])) ?_;rintro _ _ ⟨rfl,rfl⟩;refine⟨fun _=>by first|exact Ext.push _ _ _|assumption,?_⟩;refine cU 8 511 (by kernel_rfl) rfl (aj.bw (aj.ay underlying118 H.lW rfl rfl ss.length rfl rfl (by omega))) ?_;rintro _ hq_ ⟨rfl,hqe_⟩;replace hqe_:=hqe_.symm;subst hqe_;refine⟨fun _=>Ext.refl _ _,?_⟩;refine bI 9 1023 (by kernel_rfl) rfl (fun h' e=>af (off:=5) underlying132 rfl rfl H.gI rfl) ?_;refine fS 10 2047 (by kernel_rfl) rfl (cE H.gI rfl rfl rfl hcell7 (hg4 _)) ?_;rintro _ _ ⟨rfl,rfl⟩;refine⟨fun hk=>(nomatch hk),?_⟩;refine bg (by kernel_rfl) ?_;refine xu [0,1,2,3,4,5,6,12,13,15,16,25,37,58,72] rfl ?_;refine av rfl ?_;refine xr func63 rfl ?_;refine xp rfl (af (off:=0) underlying126 rfl rfl H.bY rfl) ?_;have hz7:∀u,(ey (h6.push (.cells #[.int .i64 (out.2:Nat),.int .i64 (to:Nat)] 3)) ⟨g,0+ss.length*7+5,none⟩ u).size=h6.size+1:=fun u=>by rw[iQ];simp
           have ex7:∀u,Ext (fun b=>b=g) h6 (ey (h6.push (.cells #[.int .i64 (out.2:Nat),.int .i64 (to:Nat)] 3)) ⟨g,0+ss.length*7+5,none⟩ u):=fun u=>⟨by rw[hz7];omega,fun b hb hn=>by rw[(Ext.ey (M:=fun b=>b=g) _ _ u rfl).block b (by simp;omega) hn,(Ext.push (fun _=>False) h6 _).block b hb (fun k=>k)]⟩
           refine xp rfl (ah H.cG rfl ((q4'.ext (ex7 _) j4).cell (i:=0) rfl)) ?_;refine aQ 1 [0,1,2,3,4,5,6,12,13,15,16,25,37,58,72,97] rfl ?_;refine aI rfl rfl (fun hc=>absurd hc (by decide)) (fun _=>?_);refine aE rfl ?_;refine aW func63 2 [0,1,2,3,4,5,6,12,13,15,16,25,37,58,72,97] rfl ?_;refine G.ret func63 rfl rfl ?_;exact⟨_,rfl,_,rfl,⟨hn6.blk.ext (ex7 _) (by have:=hown6 g rfl;omega),hput⟩,((nx3.trans nx36 (fun _ _ k=>k)).trans ⟨(ex7 _).mono (fun b _ k=>.inl (.inr (by rw[k];rfl))),fun b k=>.inl k⟩ (fun _ _ k=>k))⟩
         · have h4k':¬k=4:=kk h4k;refine G.bT func63 rfl ?_;refine aQ 2 [0,1,2,3,4,5,6,15,16,25,37,58,72] rfl ?_;refine aL rfl rfl (fun h5k=>?_) (fun h5k=>?_)
           · obtain rfl:k=5:=by omega
             have hone:kids.length=1:=by simp[tI] at hw;exact hw.1
             obtain⟨x,rfl⟩:∃x,kids=[x]:=by match kids,hone with| [x],_=>exact⟨x,rfl⟩
             have hkn1:kn=1:=by simpa using hkn.symm
             have hszx:nO x≤gr [x]:=by simp[gr]
             have hwx:tI x=true:=by simpa [tJ] using hwl
             have hlay:lay (.mk 5 s [x]) ss to=((lay x (ss++[⟨0,0,[],0⟩]) ss.length).1.set ss.length ⟨0,0,[(lay x (ss++[⟨0,0,[],0⟩]) ss.length).2,to],0⟩,(lay x (ss++[⟨0,0,[],0⟩]) ss.length).2):=by rw[lay];simp[cC]
             rw[hlay];refine xr func63 rfl ?_;refine xp rfl (ah H.tf rfl (q3.cell (i:=0) rfl)) ?_;refine xp rfl (aP (H.Gz ) rfl) ?_;refine xo rfl (aq (vs:=[_,_]) func64 rfl H.BZ rfl (ai.bw (nr (O:=O) (to:=[]) hn3 hO3 (bU.nil _ _ _) (by omega)))) ?_;rintro _ h5 ⟨v5,rfl,hn5,nx5⟩;have hz5:=nx5.ext.size;have hz0:=e03.size;have q3':=q3.ext nx5.ext (hnM _ (Nat.le_refl _));have q4':=q4.ext nx5.ext (hnM _ (by omega));have q5':=q5.ext nx5.ext (hnM _ (by omega));have hsl5:bU su h5 (eS nb v5) (.slice oa kn kc) [x]:=hsl3.mv nx5.Jw;obtain⟨oa',n',c',hv',_,_,_,hget⟩:=id hsl5;cases hv';obtain⟨b,o,cs,ha,hob,hrow,hnd⟩:=hget 0 x rfl;obtain⟨w2,rfl,-⟩:=hnd.open;have hown5:=hn5.own
             have hnM5:∀b,h.size≤b→b<h3.size→¬(eS nb v5 b∨h5.size≤b):=by
              rintro b hb hb' ((k1|k1)|k1)
              · omega
              · rcases nx5.own b k1.symm with k2|k2
                · have:=hown b k2;omega
                · omega
              · omega
             have hbM:¬(eS nb v5 b∨h5.size≤b):=by
              rintro(k1|k1)
              · exact hob k1
              · have:=eM hrow (by simp[dW]);omega
             have m3:=hnM5 h.size (Nat.le_refl _) (by omega);have m4:=hnM5 h1.size (by omega) (by omega);refine aQ 1 [0,1,2,3,4,5,6,12,15,16,25,37,58,72] rfl ?_;refine av rfl ?_;refine bV (fun b=>eS nb v5 b∨Array.size h5≤b) (fun i=>Nat.blt i 8) (sz:=8) (listed:= #[false,false,false,false,false,false,false,false]) func63 H.mixed rfl rfl rfl ?_;refine bI 0 1 (by kernel_rfl) rfl (fun h' e=>ah H.tf rfl (e.cell m3 (q3'.cell (i:=0) rfl))) ?_;refine bI 1 3 (by kernel_rfl) rfl (fun h' e=>af (off:=5) underlying126 rfl rfl H.zT rfl) ?_;refine bI 2 7 (by kernel_rfl) rfl (fun h' e=>ah H.vE rfl (e.cell m4 (q4'.cell (i:=5) rfl))) ?_;refine bI 3 15 (by kernel_rfl) rfl (fun h' e=>aj.ay underlying124 H.cv rfl rfl 0 rfl ha (by omega)) ?_;refine bI 4 31 (by kernel_rfl) rfl (fun h' e=>aj.aG H.eX H.cv rfl (e.rowAt hbM hrow) (by first|rfl|(simp;done)|(simp;omega))) ?_;refine b9 5 63 (by kernel_rfl) rfl ?_;refine cU 6 127 (by kernel_rfl) rfl (aq (vs:=[_,_,_]) func63 rfl H.D2 rfl (ai.bw (ih (x:=x) (O:=O) (to:=ss.length) (by omega) hn5 (fun b hb=>by have:=hO3 b hb;omega) hnd hwx (by simp;omega)))) ?_;rintro _ h6 ⟨v6,rfl,hn6,nx6⟩;refine⟨fun _=>nx6.ext.mono (fun b _ k=>k.elim .inl (fun k=>k.elim)),?_⟩;have hz6:=nx6.ext.size;have nx36:=nx5.trans nx6 (fun _ _ k=>k);have q3':=q3.ext nx36.ext (hnM _ (Nat.le_refl _));have q4':=q4.ext nx36.ext (hnM _ (by omega));have q5':=q5.ext nx36.ext (hnM _ (by omega));have hown6:=hn6.own;have hlen6:=fP x (ss++[⟨0,0,[],0⟩]) ss.length;rw[List.length_append,List.length_singleton] at hlen6;have hpre:(lay x (ss++[⟨0,0,[],0⟩]) ss.length).1[ss.length]? =some ⟨0,0,[],0⟩:=by rw[lD x _ _ _ (by simp)];simp
             have hn6c:=hn6.blk.cell (i:=0) rfl
             have hnM6:∀b,h.size≤b→b<h3.size→¬(eS nb v6 b∨h6.size≤b):=by
              rintro b hb hb' ((k1|k1)|k1)
              · omega
              · rcases nx36.own b k1.symm with k2|k2
                · have:=hown b k2;omega
                · omega
              · omega
             have hnew6:∀t,bU iz (h6.push (.cells #[.int .i64 ((lay x (ss++[⟨0,0,[],0⟩]) ss.length).2:Nat),.int .i64 (to:Nat)] t)) (fun b=>cT v6.ownBlock b∨b=nb∨O b) (.slice (some ⟨h6.size,0,none⟩) 2 2) [(lay x (ss++[⟨0,0,[],0⟩]) ss.length).2,to]:=fun t=>Ll t _ _ (by
              rintro(k1|k1|k1)
              · have:=hown6 _ k1.symm;omega
              · omega
              · have:=hO3 _ k1;omega)
             generalize hout:lay x (ss++[⟨0,0,[],0⟩]) ss.length=out at *;have hn7:cy (h6.push (.cells #[.int .i64 (out.2:Nat),.int .i64 (to:Nat)] 3)) O nb v6 out.1 st:=hn6.ax (Ext.push _ _ _) (fun _ _ k=>k);obtain⟨g,c6,cs6,hv6,hg1,hg2,hg3,hg4,hg5,hg6⟩:=hn7.row.put hpre;obtain⟨w6,rfl,_⟩:=hg5;subst hv6;have hput:=hg6 5 (.slice (some ⟨h6.size,0,none⟩) 2 2) ⟨0,0,[out.2,to],0⟩ (by decide) ⟨_,rfl,hnew6 _⟩;have hgb:h6.size=g∨g<h6.size:=by have:=hown6 g rfl;omega
             have hg6':g<h6.size:=(hown6 g rfl).2;have hcell7:cellAt (h6.push (.cells #[.int .i64 (out.2:Nat),.int .i64 (to:Nat)] 3)) ⟨g,0+ss.length*7+5,none⟩=some w6:=hg3 5 _ rfl;have m6:=hnM6 h1.size (by omega) (by omega);have j4:¬h1.size=g:=fun k=>m6 (.inl (.inr (by rw[k];rfl)))
             have j3:¬h6.size≤h.size:=by omega
             have j0:¬h6.size≤nb:=by omega
             have j5:¬h6.size≤h2.size:=by omega
             refine b9 7 255 (by kernel_rfl) rfl ?_;refine bg (by kernel_rfl) ?_;refine xu [0,1,2,3,4,5,6,12,13,15,16,25,37,58,72] rfl ?_;refine av rfl ?_;refine bV (fun b=>Array.size h6≤b) (fun i=>Nat.blt i 10) (sz:=11) (listed:= #[false,false,false,false,false,false,false,false,false,false,false]) func63 H.mixed rfl rfl rfl ?_;refine bI 0 1 (by kernel_rfl) rfl (fun h' e=>ah H.tf rfl (e.cell j3 (q3'.cell (i:=0) rfl))) ?_;refine b9 1 3 (by kernel_rfl) rfl ?_;refine bI 2 7 (by kernel_rfl) rfl (fun h' e=>af (off:=0) underlying120 rfl rfl H.gv rfl) ?_;refine bI 3 15 (by kernel_rfl) rfl (fun h' e=>ah H.iw rfl (e.cell j0 hn6c)) ?_;refine b9 4 31 (by kernel_rfl) rfl ?_;refine b9 5 63 (by kernel_rfl) rfl ?_;refine bI 6 127 (by kernel_rfl) rfl (fun h' e=>ah H.cG rfl (e.cell j5 (q5'.cell (i:=0) rfl))) ?_;refine cU 7 255 (by kernel_rfl) rfl (aC.aZ (us:=[_,_]) underlying121 H.qw rfl rfl (by decide) (by simp[Value.oneCell'])) ?_;rintro _ _ ⟨rfl,rfl⟩;refine⟨fun _=>by first|exact Ext.push _ _ _|assumption,?_⟩;refine cU 8 511 (by kernel_rfl) rfl (aj.bw (aj.ay underlying118 H.lW rfl rfl ss.length rfl rfl (by omega))) ?_;rintro _ hq_ ⟨rfl,hqe_⟩;replace hqe_:=hqe_.symm;subst hqe_;refine⟨fun _=>Ext.refl _ _,?_⟩;refine bI 9 1023 (by kernel_rfl) rfl (fun h' e=>af (off:=5) underlying132 rfl rfl H.gI rfl) ?_;refine fS 10 2047 (by kernel_rfl) rfl (cE H.gI rfl rfl rfl hcell7 (hg4 _)) ?_;rintro _ _ ⟨rfl,rfl⟩;refine⟨fun hk=>(nomatch hk),?_⟩;refine bg (by kernel_rfl) ?_;refine xu [0,1,2,3,4,5,6,12,13,15,16,25,37,58,72] rfl ?_;refine av rfl ?_;refine xr func63 rfl ?_;refine xp rfl (af (off:=0) underlying126 rfl rfl H.bY rfl) ?_;have hz7:∀u,(ey (h6.push (.cells #[.int .i64 (out.2:Nat),.int .i64 (to:Nat)] 3)) ⟨g,0+ss.length*7+5,none⟩ u).size=h6.size+1:=fun u=>by rw[iQ];simp
             have ex7:∀u,Ext (fun b=>b=g) h6 (ey (h6.push (.cells #[.int .i64 (out.2:Nat),.int .i64 (to:Nat)] 3)) ⟨g,0+ss.length*7+5,none⟩ u):=fun u=>⟨by rw[hz7];omega,fun b hb hn=>by rw[(Ext.ey (M:=fun b=>b=g) _ _ u rfl).block b (by simp;omega) hn,(Ext.push (fun _=>False) h6 _).block b hb (fun k=>k)]⟩
             refine xp rfl (ah H.cG rfl ((q4'.ext (ex7 _) j4).cell (i:=0) rfl)) ?_;refine aQ 1 [0,1,2,3,4,5,6,12,13,15,16,25,37,58,72,97] rfl ?_;refine aI rfl rfl (fun _=>?_) (fun hc=>absurd hc (by decide));refine aW func63 2 [0,1,2,3,4,5,6,12,13,15,16,25,37,58,72,97] rfl ?_;refine G.ret func63 rfl rfl ?_;exact⟨_,rfl,_,rfl,⟨hn6.blk.ext (ex7 _) (by have:=hown6 g rfl;omega),hput⟩,((nx3.trans nx36 (fun _ _ k=>k)).trans ⟨(ex7 _).mono (fun b _ k=>.inl (.inr (by rw[k];rfl))),fun b k=>.inl k⟩ (fun _ _ k=>k))⟩
           · have h5k':¬k=5:=kk h5k;have hlay:lay (.mk k s kids) ss to=(ss,to):=by rw[lay];simp[h1k',h2k',h3k',h4k',h5k',h6k']
             rw[hlay];refine aE rfl ?_;refine G.aN ?_;refine xr func63 rfl ?_;refine xp rfl (ah H.cG rfl (q5.cell (i:=0) rfl)) ?_;refine aQ 1 [0,1,2,3,4,5,6,15,16,25,37,58,72] rfl ?_;refine G.ret func63 rfl rfl ?_;exact⟨_,rfl,v,rfl,hn3,nx3⟩
theorem FY:∀n,GQ n
 | 0=>by
  intro hs;have:=CL ‹Nd›;omega
 |n+1=>FZ (FY n)
def mV:gG By:=.flat (fun s=>.string (bs s)) fun _=>rfl
def xN (h h':aD) (rules:List By) (r:Value):Prop :=
 match fj rules with
 |.inl e=>r= .tuple #[.pointer none,.int .i64 e]
 |.inr (ss,st)=>∃nb v,r= .tuple #[.pointer (some ⟨nb,0,none⟩),.int .i64 0]∧h.size≤nb∧cy h' (fun b=>b<h.size) nb v ss st
theorem GJ (i:Nat) (hn:cy h O nb v ss st) (hO:∀b,O b→b<h.size) (hl:ss.length≤1000000) :
 ai Tryz.prog 64 #[.pointer (some ⟨nb,0,none⟩),.agg #[.int .i64 2,.int .u64 0,.int .u64 0,.int .u64 0,.int .u64 0,.slice none 0 0,.int .i64 (i:Nat)]] h (cL (HU O nb h v st (ss++[⟨2,0,[],i⟩],ss.length))):=by
 have h1:=zh (x:=⟨2,0,[],i⟩) hn hO ⟨.slice none 0 0,rfl,bU.nil _ _ _⟩ hl;simp only[DH,IB] at h1;exact h1
theorem B5 {lim:Nat}(hg:Sg h lim) (hlim:lim≤h.size){rv:Value}{rules:List By}(hr:bU mV h (fun _=>False) rv rules) (hrl:∀s∈rules,s.length≤1000000) :
 ai Tryz.prog 38 #[rv] h (cL fun r h'=>xN h h' rules r∧aF h h'):=by
 obtain⟨oa,kn,kc,rfl,hsl⟩:=id hr.open;have hkn:=hsl.len;have hkc:=hsl.le;have hcap:=hsl.cap;generalize htgt:kF 0 rules [] []=tgt;refine ai.of func38 rfl rfl ?_;refine aW func38 2 [0,2,3] rfl ?_;refine av rfl ?_;refine av rfl ?_;refine G.bD [(18,.bool (decide (kn=0∨64<kn)))] [(0,_),(2,_),(3,_)] ⟨rfl,rfl,rfl,trivial⟩ func38 rfl ?_ ?_
 · refine bP 1 rfl rfl (aj.aJ underlying93 rfl) ?_;refine aT 2 rfl ?_;refine aH (d:=14) rfl (fun hg=>?_) (fun hg=>?_)
   · refine aT 4 rfl ?_;refine az rfl ?_;exact⟨rfl,aA rfl (by have:=of_decide_eq_true hg;simp;omega),rfl,rfl,rfl,trivial⟩
   · refine bP 1 rfl rfl (aj.aJ underlying93 rfl) ?_;refine aT 2 rfl ?_;refine az rfl ?_;exact⟨rfl,aA rfl (by have:=of_decide_eq_false hg;simp only[decide_eq_decide];omega),rfl,rfl,rfl,trivial⟩
 · refine aL rfl rfl (fun hbig=>?_) (fun hbig=>?_)
   · refine aW func38 2 [0,2,3,18] rfl ?_;refine G.ret func38 rfl rfl ?_;refine⟨_,rfl,?_,Ext.refl _ _⟩;have:fj rules= .inl 2:=by unfold fj;rw[if_pos (show rules.length=0∨64<rules.length by omega)]
     rw[xN,this];rfl
   · have hmk:fj rules=match kF 0 rules [] [] with|.inl e=>.inl e|.inr (ss,t)=>if 2000<wj rules then .inl 70 else .inr (ss++[⟨0,0,t,0⟩],ss.length):=by unfold fj;rw[if_neg (show ¬(rules.length=0∨64<rules.length) by omega)];rfl
     rw[htgt] at hmk;refine aE rfl ?_;refine xr func38 rfl ?_;refine xp rfl (aP (H.Jl ) rfl) ?_;refine xo rfl (aC.fe rfl) ?_;rintro _ h1 ⟨rfl,q4,e1,z1⟩;have q4:bq h1 h.size 120 [.slice none 0 0,.int .i64 (0:Nat)]:=q4;have hn1:cy h1 (fun b=>b<h.size) h.size (.slice none 0 0) [] 0:=⟨q4,dD.nil _ _ _ _ _⟩
     refine aQ 1 [0,2,3,4,18] rfl ?_;refine aW func38 1 [0,2,3,4,5,18] rfl ?_;refine aW func38 1 [0,2,3,4,5,6,18] rfl ?_;refine av rfl ?_;refine br func38 1 rfl ?_;refine xp rfl (aj.aJ underlying93 rfl) ?_;refine aQ 1 [0,2,3,4,5,6,18,21,22,23] rfl ?_;refine G.block rfl rfl ?_;refine bE (σ:=Nat×Value) (fun p=>[(4,.pointer (some ⟨h.size,0,none⟩)),(5,p.2),(6,.int .i64 (wj (rules.take p.1):Nat)),(21,.slice oa kn kc),(22,.int .i64 (kn:Nat)),(23,.int .i64 (p.1:Nat))]) (fun p h'=>p.1≤kn∧∃v ss t,cy h' (fun b=>b<h.size∨cT p.2.ownBlock b) h.size v ss 0∧dD iz (fun _=>True) h' h1.size 3 p.2 t∧Nx (fun _=>False) h.size h1 (.slice none 0 0) h' v∧(∀b,p.2.ownBlock=some b→v.ownBlock≠some b)∧(ss.length≤402*p.1∧wj (rules.take p.1)≤200*p.1∧t.length=p.1)∧kF p.1 (rules.drop p.1) ss t=tgt) (fun p=>kn-p.1) ((0,.slice none 0 0)) rfl ⟨rfl,rfl,rfl,rfl,rfl,rfl,trivial⟩ ⟨Nat.zero_le _,_,[],[],hn1.ax (Ext.refl _ _) (fun b _ k=>k.elim id (fun k=>by cases k)),dD.nil _ _ _ _ _,Nx.refl,fun b hb=>(by cases hb),⟨Nat.zero_le _,by simp[wj],rfl⟩,htgt⟩ ?_;rintro⟨i,tv⟩ g0 ⟨hi,v,ss,t,hng,htg,nxg,hdist,⟨hss,htot,htl⟩,hcon⟩ ih
     try dsimp only
     dsimp only at hi hng htg nxg hdist hss htot htl hcon;have hz0:=nxg.ext.size;have htv:∀b,tv.ownBlock=some b→h1.size≤b∧b<g0.size:=fun b hb=>by obtain⟨_,_,k,_⟩:=id htg;exact k.lt hb
     have e0g:aF h g0:=⟨by omega,fun b hb _=>(nxg.ext.block b (by omega) (by
      rintro((k|k)|k)
      · omega
      · cases k
      · exact k)).trans (e1.block b hb (fun k=>k))⟩
     have hown:=hng.own;have hnlt:=hng.blk.lt;refine aW func38 1 [4,5,6,21,22,23,24] rfl ?_;refine av rfl ?_;refine aL rfl rfl (fun hlt=>?_) (fun hlt=>?_)
     · obtain⟨s,hs⟩:∃s,rules[i]? =some s:=⟨_,List.getElem?_eq_getElem (by omega)⟩
       have hdr:rules.drop i=s::rules.drop (i+1):=by
        obtain⟨hi',rfl⟩:=List.getElem?_eq_some_iff.1 hs;exact List.drop_eq_getElem_cons hi'
       rw[hdr,kF] at hcon;obtain⟨oa',n',c',hv',_,_,_,hget⟩:=id (hr.ax e0g);cases hv';obtain⟨b,o,cs,ha,hob,hrow,rfl⟩:=hget i s hs;refine aE rfl ?_;refine av rfl ?_;refine G.block rfl rfl ?_;refine br func38 1 rfl ?_;refine xp rfl (aj.ay underlying93 H.dA rfl rfl i rfl ha (by omega)) ?_;refine xp rfl (ah H.dO rfl (hrow 0 _ rfl)) ?_;refine aQ 2 [4,5,6,7,8,21,22,23,24] rfl ?_;refine br func38 1 rfl ?_;refine xo rfl (aq (vs:=[_]) func62 rfl H.LM rfl (ai.bw (Ar (hg.ext e0g (fun _ k=>k.elim)) (by omega) s (hrl s (List.mem_of_getElem? hs))))) ?_;rintro _ g1 ⟨⟨w,rfl,hnd⟩,e01⟩;refine aT 3 rfl ?_;refine xo rfl (aC.aR H.jZ) ?_;rintro _ g2 ⟨rfl,k9,e12,z12⟩;refine RW.bZ rfl rfl rfl (aC.aB H.cv rfl rfl k9 (by first|rfl|(simp;done)|(simp;omega)) (by first|decide|exact of_decide_eq_true rfl|(simp;done)|(simp;omega)) (cq.one hnd)) ?_;rintro _ g3 ⟨rfl,k9',e23,z23⟩;refine aQ 1 [4,5,6,7,8,9,10,21,22,23,24] rfl ?_;refine av rfl ?_;refine aW func38 2 [4,5,6,7,8,9,10,21,22,23,24,34] rfl ?_;have k9':bq g3 g1.size 126 (dW (ck s).1.kind (ck s).1.set w):=k9';refine aL rfl rfl (fun herr=>?_) (fun herr=>?_)
       · rw[if_pos (by exact herr)] at hcon;refine aW func38 3 [2,3,4,5,6,7,8,9,10,21,22,23,24,34] rfl ?_;refine G.ret func38 rfl rfl ?_;have e3:aF h g3:=(e0g.trans e01).trans (e12.only e23 (Nat.le_refl _));refine⟨_,rfl,?_,e3⟩;rw[←hcon] at hmk;rw[xN,hmk];rfl
       · have h0:(ck s).2=0:=by simpa using herr
         rw[if_neg (by simpa using h0)] at hcon;have hsmall:=pW h0;have hbs:=bp s;have ecc:aF g1 g3:=e12.only e23 (Nat.le_refl _);have e03:aF g0 g3:=e01.trans ecc;have hz1:=e01.size;have hz3:=ecc.size;have hz13:g1.size<g3.size:=by omega
         refine aE rfl ?_;refine av rfl ?_;refine G.bD [(6,.int .i64 (wj (rules.take (i+1)):Nat))] [(4,_),(5,_),(7,_),(8,_),(9,_),(10,_),(21,_),(22,_),(23,_),(24,_),(34,_)] ⟨rfl,rfl,rfl,rfl,rfl,rfl,rfl,rfl,rfl,rfl,rfl,trivial⟩ func38 rfl ?_ ?_
         · refine bP 2 rfl rfl (aj.bG underlying9 rfl) ?_;refine xp rfl (aj.bA rfl rfl ⟨by omega,by omega⟩) ?_;refine aT 1 rfl ?_;refine az rfl ?_;exact⟨rfl,(by show some (Value.int _ _)=some (Value.int _ _);rw[wJ hs];congr 2),rfl,rfl,rfl,rfl,rfl,rfl,rfl,rfl,rfl,rfl,rfl,trivial⟩
         · have hn3:cy g3 (fun b=>b<h.size∨cT tv.ownBlock b) h.size v ss 0:=hng.ax e03 (fun _ _ k=>k);have hO3:∀b,(b<h.size∨cT tv.ownBlock b)→b<g3.size:=fun b hb=>by rcases hb with k|k;omega;(have:=htv b k.symm;omega)
           have hnd3:cq g3 (eS h.size v) (dW (ck s).1.kind (ck s).1.set w) (ck s).1:=hnd.mv ⟨ecc.size,fun b hb hn=>⟨ecc.block b hb (fun k=>k),by
            rintro(k|k)
            · exact hn (by show b<g0.size;omega)
            · exact hn (by show b<g0.size;exact(hown b k.symm).2)⟩⟩
           have hK1:¬(eS h.size v g1.size∨False):=by
            rintro((k|k)|k)
            · omega
            · have:=hown _ k.symm;omega
            · exact k
           refine bV (fun b=>¬b=Array.size g1) (fun i=>Nat.blt i 11) (sz:=11) (listed:= #[false,false,false,false,false,false,false,false,false,false,false]) func38 H.mixed rfl rfl rfl ?_;refine b9 0 1 (by kernel_rfl) rfl ?_;refine b9 1 3 (by kernel_rfl) rfl ?_;refine bI 2 7 (by kernel_rfl) rfl (fun h' e=>aj.aG H.eX H.cv rfl (e.rowAt (fun k=>k rfl) k9'.row) (by first|rfl|(simp;done)|(simp;omega))) ?_;refine b9 3 15 (by kernel_rfl) rfl ?_;refine b9 4 31 (by kernel_rfl) rfl ?_;refine bI 5 63 (by kernel_rfl) rfl (fun h' e=>aP (H.Ex _ _) rfl) ?_;refine cU 6 127 (by kernel_rfl) rfl (aq (vs:=[_,_]) func64 rfl H.BZ rfl (ai.bw (GJ i hn3 hO3 (by omega)))) ?_;rintro _ g4 ⟨v4,rfl,hn4,nx4⟩;refine⟨fun _=>nx4.ext.mono (fun b _ k e=>hK1 (e▸k)),?_⟩;have hz4:=nx4.ext.size
           have hK2:¬(eS h.size v4 g1.size∨False):=by
            rintro((k|k)|k)
            · omega
            · rcases nx4.own _ k.symm with k2|k2
              · exact hK1 (.inl (.inr k2.symm))
              · omega
            · exact k
           refine cU 7 255 (by kernel_rfl) rfl (aq (vs:=[_,_,_]) func63 rfl H.D2 rfl (ai.bw (FY 401 (x:=(ck s).1) (to:=ss.length) hsmall.1 hn4 (fun b hb=>by have:=hO3 b hb;omega) (hnd3.mv nx4.Jw) hsmall.2.1 (by have:=hsmall.1;simp only[List.length_append,List.length_singleton];omega)))) ?_;rintro _ g5 ⟨v5,rfl,hn5,nx5⟩;refine⟨fun _=>nx5.ext.mono (fun b _ k e=>hK2 (e▸k)),?_⟩;have hz5:=nx5.ext.size;have nx45:Nx (fun _=>False) h.size g3 v g5 v5:=nx4.trans nx5 (fun _ _ k=>k)
           have ht5:dD iz (fun _=>True) g5 h1.size 3 tv t:=(htg.ax e03).pG nx45.ext (fun b hb=>by
            rintro((k1|k1)|k1)
            · have:=htv b hb;omega
            · exact hdist b hb k1.symm
            · exact k1) (fun _ _ _=>trivial) (fun _ _ _=>trivial)
           obtain⟨css,hc1,hc2,hc3⟩:=id ht5;have hKt:¬cT tv.ownBlock g1.size:=fun k=>by have:=htv _ k.symm;omega
           refine cU 8 511 (by kernel_rfl) rfl (aC.aZ (us:=[_]) underlying121 H.qw rfl rfl (by decide) (by simp[Value.oneCell'])) ?_;rintro _ _ ⟨rfl,rfl⟩;refine⟨fun _=>by first|exact Ext.push _ _ _|assumption,?_⟩;refine cU 9 1023 (by kernel_rfl) rfl (aC.bO underlying121 H.qw rfl rfl (hc2) rfl rfl (by first|decide|simp[Value.oneCell']) (by omega) (by decide) (by omega)) ?_;rintro t6 g6 ⟨ho6,hx6,hx6',hv6⟩;refine⟨fun _=>hx6'.mono (fun b _ k e=>hKt (e▸k)),?_⟩;refine b9 10 2047 (by kernel_rfl) rfl ?_;refine bg (by kernel_rfl) ?_;refine xu [4,5,6,7,8,9,10,21,22,23,24,34] rfl ?_;refine G.aN ?_;refine G.bT func38 rfl ?_;refine xp rfl (aj.bA rfl rfl ⟨by omega,by omega⟩) ?_;refine aQ 1 [4,5,6,7,8,9,10,21,22,23,24,34] rfl ?_;have ht6:=dD.fV hc1 hc3 ho6 hx6 hv6 (y:=(lay (ck s).1 (ss++[(⟨2,0,[],i⟩:b6)]) ss.length).2) rfl
           have hn6:cy g6 (fun b=>b<h.size∨cT t6.ownBlock b) h.size v5 (lay (ck s).1 (ss++[⟨2,0,[],i⟩]) ss.length).1 0:=hn5.ext hx6 (fun k=>by have:=htv _ k.symm;omega) (fun b hb k=>by
            rcases nx45.own b hb with k'|k'
            · exact hdist b k.symm k'
            · have:=htv b k.symm;omega) (fun b _ k=>.inr k) (fun b hb k=>k.imp id (fun k=>by
              rcases hv6 b k.symm with k'|k'
              · exact k'.symm
              · omega))
           have hd6:∀b,t6.ownBlock=some b→v5.ownBlock≠some b:=fun b hb k=>by
            rcases hv6 b hb with k'|k'
            · rcases nx45.own b k with k2|k2
              · exact hdist b k' k2
              · have:=htv b k';omega
            · have:=(hn5.own b k).2;omega
           have nx05:Nx (fun _=>False) h.size h1 (.slice none 0 0) g5 v5:=(nxg.trans (Nx.Jv e03) (fun _ _ k=>k)).trans nx45 (fun _ _ k=>k);have nx06:Nx (fun _=>False) h.size h1 (.slice none 0 0) g6 v5:=⟨⟨by have:=hx6.size;omega,fun b hb hn=>by rw[hx6.block b (by omega) (fun k=>by have:=htv b k.symm;omega)];exact nx05.ext.block b hb hn⟩,nx05.own⟩
           have hlenl:=(fP (ck s).1 (ss++[⟨2,0,[],i⟩]) ss.length).2;rw[List.length_append,List.length_singleton] at hlenl;have htt:=wJ hs;exact ih (i+1,t6) _ _ ⟨rfl,rfl,rfl,rfl,rfl,rfl,trivial⟩ ⟨by show i+1≤kn;omega,v5,_,_,hn6,ht6,nx06,hd6,⟨by have:=hsmall.1;show _≤402*(i+1);omega,by have:=hsmall.2.2;show wj (rules.take (i+1))≤200*(i+1);omega,by simp[htl]⟩,hcon⟩ (by show kn-(i+1)<kn-i;omega)
     · obtain rfl:i=kn:=by omega
       have hall:rules.take i=rules:=List.take_of_length_le (by omega);have hnil:rules.drop i=[]:=List.drop_of_length_le (by omega);rw[hnil,kF] at hcon;rw[←hcon] at hmk;rw[hall] at htot;simp only[hall];refine bz rfl rfl ?_;refine av rfl ?_;refine aW func38 2 [4,5,6,21,22,23,24,52] rfl ?_;refine aL rfl rfl (fun hbig2=>?_) (fun hbig2=>?_)
       · refine aW func38 2 [2,3,4,5,6,21,22,23,24,52] rfl ?_;refine G.ret func38 rfl rfl ?_;refine⟨_,rfl,?_,e0g⟩;have:fj rules= .inl 70:=by rw[hmk];exact if_pos (by omega)
         rw[xN,this];rfl
       · have hmk2:fj rules= .inr (ss++[⟨0,0,t,0⟩],ss.length):=by rw[hmk];exact if_neg (by omega)
         have hrd:bU iz g0 (fun b=>eS h.size v b∨b<h.size) tv t:=htg.CY (fun b hb=>by
          rintro((k1|k1)|k1)
          · have:=htv b hb;omega
          · exact hdist b hb k1.symm
          · have:=htv b hb;omega) (fun _ _ _=>trivial)
         obtain⟨oa9,n9,c9,rfl,_⟩:=id hrd;refine aE rfl ?_;refine br func38 3 rfl ?_;refine xp rfl (aP (H.zc _ _ _) rfl) ?_;refine xo rfl (aq (vs:=[_,_]) func64 rfl H.BZ rfl (ai.bw (nr (O:=fun b=>b<h.size) (to:=t) (hng.ax (Ext.refl _ _) (fun b _ k=>.inl k)) (fun b hb=>by omega) hrd (by omega)))) ?_;rintro _ g4 ⟨v4,rfl,hn4,nx4⟩;refine bP 1 rfl rfl (af (off:=1) underlying120 rfl rfl H.bY rfl) ?_;refine RW.bZ rfl rfl rfl (aC.bF H.bY rfl rfl hn4.blk (by first|decide|exact of_decide_eq_true rfl|(simp;done)|(simp;omega)) rfl) ?_;rintro _ g5 ⟨rfl,hk5,hx5,hz5⟩;refine xd [4,5,6,21,22,23,24,52] rfl ?_;refine aW func38 3 [2,3,4,5,6,21,22,23,24,52] rfl ?_;refine G.ret func38 rfl rfl ?_;have hn5:cy g5 (fun b=>b<h.size) h.size v4 (ss++[⟨0,0,t,0⟩]) ss.length:=⟨hk5,hn4.row.pG hx5 (fun b hb k=>by have:=(hn4.own b hb).1;omega) (fun b _ k=>.inl k) (fun b _ k=>k)⟩
         have e4:aF h g5:=⟨by have:=hx5.size;have:=nx4.ext.size;omega,fun b hb _=>by
          rw[hx5.block b (by have:=nx4.ext.size;omega) (by omega),nx4.ext.block b (by omega) ?_]
          · exact e0g.block b hb (fun k=>k)
          · rintro((k|k)|k)
            · omega
            · rcases nxg.own b k.symm with k2|k2
              · cases k2
              · omega
            · exact k⟩
         refine⟨_,rfl,?_,e4⟩;rw[xN,hmk2];exact⟨h.size,v4,rfl,Nat.le_refl _,hn5⟩
end
end Go.Proofs.YtedocgkapmeceaaGreatDoor
namespace Go.Lw
theorem aC.pZ {P:Program}{ρ:Env}{h:aD}{dst:Option Nat}{ty:TypeId}{pos:String}{after:Array Edge}{guard:Option (Nat×Bool)}{X:List PanicEntry→aD→Prop}{t e:TypeId}{bytes n:Nat}{x y:Operand}{kl kc:IntKind}{z:Value}
 (ht:P.underlying t=some (.slice e)) (he:fD P e 1 bytes) (hz:(P.info? e).bind (·.zero)=some z) (hx:bW ρ x=some (.int kl (n:Nat))) (hy:bW ρ y=some (.int kc (n:Nat))) (hzc:z.cells= #[z]) (hn:n≤1000000000) (hb:bytes≤1000) :
 aC P ⟨dst,.makeSlice t x y,ty,pos,after,guard⟩ ρ h (fun u g=>u= .slice (some ⟨h.size,0,none⟩) n n∧aS g h.size e 1 u n (List.replicate n z)∧aF h g) X:=by
 obtain⟨⟨i,z',hi,hz',hsz,hby,hzs⟩,_⟩:=he;have hzz:z'=z:=by rw[hi] at hz;simpa [hz'] using hz
 subst hzz;intro nn B a w hf ha next Q hnx _
 have hmul:i.bytes*n≤1000*1000000000:=Nat.mul_le_mul (by omega) hn;obtain⟨w',hr,h2,h3⟩:=run_make_full (P:=P) w h.size t e i z' 1 ht hi hz' hsz kl kc n (by omega) (by simp only[maxLen];omega) (by rw[ha.heap];exact Nat.le_refl _);unfold Oper.wp execOp;simp only[hf.eval hx,hf.eval hy,Sem.run_bind,Sem.run_pure,Result.andThen_ok,hr];refine hnx _ w'.heap w' (ha.grown h3) ⟨by rw[ha.heap],?_,?_⟩
 · have h4:=(At.own (ha.grown h3)).1 h2
   have:(madeCells z'.cells (n*1)).toList=List.replicate n z':=by
    rw[hzc,madeCells,Nat.mul_one]
    apply List.ext_getElem
    · simp
    · intro j h1 h2;simp[Nat.mod_one]
   rw[this] at h4;exact h4
 · have h5:=lF h3;rw[ha.heap] at h5;exact gz h5
end Go.Lw
namespace Go.Proofs.YtedocgkapmeceaaGreatDoor
open Go.Proofs.Tryz
open Go Go.Lw
set_option maxRecDepth 20000
section
variable {h:aD}{O:Nat→Prop}{nb st i n:Nat}{v:Value}{ss:List b6}{todo:List Nat}{seen:List Bool}
theorem oG (hn:cy h O nb v ss st):ai Tryz.prog 113 #[.pointer (some ⟨nb,0,none⟩)] h (cL fun r h'=>r= .bool (decide (ss.length=0))∧h'=h):=by
 obtain⟨css,hc1,hc2,hc3⟩:=id hn.row;obtain⟨oa,c,rfl,_⟩:=hc2.open;refine ai.of func113 rfl rfl ?_;refine aW func113 1 [0,2] rfl ?_;refine av rfl ?_;refine G.bD [(2,.bool (decide (ss.length=0)))] [(0,_)] ⟨rfl,trivial⟩ func113 rfl ?_ ?_
 · refine bP 1 rfl rfl (aj.rC underlying90 rfl rfl) ?_;refine aT 1 rfl ?_;refine RW.cW (d:=5) (b':=false) rfl (rfl) ?_;refine bP 2 rfl rfl (af (off:=0) underlying120 rfl rfl H.gv rfl) ?_;refine xp rfl (ah H.iw rfl (hn.blk.cell (i:=0) rfl)) ?_;refine xp rfl (aj.aJ underlying118 rfl) ?_;refine aT 3 rfl ?_;refine az rfl ?_;exact⟨rfl,aA rfl (by simp only[decide_eq_decide];omega),rfl,trivial⟩
 · refine G.ret func113 rfl rfl ?_;exact⟨_,rfl,rfl,rfl⟩
theorem Fv {base:Nat}{t:TypeId}{m:Nat}(k:cK eE h base t v todo) (hm:todo.length=m+1) :
 ∃g c x,v= .slice (some ⟨g,0,none⟩) (m+1) c∧m+1≤c∧g<h.size∧base≤g∧cellAt h ⟨g,0+m*1,none⟩=some (.int .i64 (x:Nat))∧todo=todo.dropLast++[x] ∧
  cK eE h base t (.slice (cX (some ⟨g,0,none⟩) 0 1 c) m c) todo.dropLast∧(Value.slice (cX (some ⟨g,0,none⟩) 0 1 c) m c).ownBlock=some g:=by
 have k':aS h base t 1 v todo.length (todo.map eE):=k;obtain⟨oa,c,rfl,ho⟩:=k'.open;have hne:todo≠[]:=by intro e;rw[e] at hm;cases hm
 have hlast:todo=todo.dropLast++[todo.getLast hne]:=(List.dropLast_concat_getLast hne).symm
 have hx:(todo.map eE)[m]? =some (eE (todo.getLast hne)):=by
  rw[List.getElem?_map,List.getLast_eq_getElem,List.getElem?_eq_getElem (by omega)];simp[hm]
 obtain⟨g,rfl,hb,hlt,hc,_⟩:=ho.at hx;have ht:=ho.take (m:=m) (by omega) 1
 have hd:(todo.map eE).take (m*1)=todo.dropLast.map eE:=by
  rw[Nat.mul_one,List.dropLast_eq_take,hm,Nat.add_sub_cancel,List.map_take]
 rw[hd] at ht;refine⟨g,c,todo.getLast hne,by rw[hm],by have:=ho.le;omega,hlt,hb,hc,hlast,?_,?_⟩
 · have hl:todo.dropLast.length=m:=by simp[hm]
   unfold cK;rw[hl];exact ht
 · unfold cX;split<;>simp[Value.ownBlock,Addr.add]
theorem cy.get {x:b6}(k:cy h O nb v ss st) (hx:ss[i]? =some x) :
 ∃g c w,v= .slice (some ⟨g,0,none⟩) ss.length c∧g<h.size∧Lw.rowAt h g (0+i*7) (DH x.kind x.set w x.rule)∧bU iz h (fun b=>cT v.ownBlock b∨b=nb∨O b) w x.to:=by
 obtain⟨g,c,cs,rfl,_,hg,hrow,_,⟨w,rfl,hw⟩,_⟩:=k.row.put hx;exact⟨g,c,w,rfl,hg,hrow,hw⟩
theorem Bo {oa:Option Addr}{c:Nat}{xs:List Nat}(k:bU iz h O (.slice oa n c) xs):xs.length=n∧(n=0∨∃b o,oa=some ⟨b,o,none⟩∧Lw.rowAt h b o (xs.map eE))∧n≤maxLen:=by
 obtain⟨oa',n',c',hv,hl,hc,hm,hg⟩:=k;cases hv;have hs:Sl iz h O oa n c xs:=⟨hl,hc,hm,hg⟩
 exact⟨hl,Sl.row hs,by omega⟩
theorem Co (ht:todo.getLast? =some i) (hs:seen[i]? =some true):iH ss (n+1) todo seen=iH ss n todo.dropLast seen:=by
 rw[iH,ht];simp[hs]
theorem Eu {x:b6}(ht:todo.getLast? =some i) (hs:seen[i]? =some false) (hx:ss[i]? =some x):iH ss (n+1) todo seen=iH ss n (if x.kind=0 then todo.dropLast++x.to else todo.dropLast) (seen.set i true):=by
 rw[iH,ht];simp[hs,hx]
theorem Et:iH ss n [] seen=seen:=by cases n<;>simp[iH]
def EJ (ss:List b6) (seen:List Bool) (i:Nat):Bool:=seen[i]? ==some true && (ss[i]?.map (·.kind)) !=some 0
theorem qB {tv:Value}{base:Nat}{tb:Option Nat}(hn:cy h O nb v ss st) (hgood:Good ss) (hss:ss.length≤1000000) (htd:cK eE h base 3 tv todo) (htb:tv.ownBlock=tb)
 (hbase:base≤h.size) (hOt:∀b,tb=some b→O b∧b≠nb∧v.ownBlock≠some b) (hlt:∀j∈todo,j<ss.length) (hpot:todo.length+rY ss (List.replicate ss.length false)≤1000000) :
 ai Tryz.prog 114 #[.pointer (some ⟨nb,0,none⟩),tv] h (cL fun r h'=>cK eE h' h.size 3 r (closed ss todo)∧Ext (cT tb) h h'):=by
 obtain⟨css,hc1,hc2,hc3⟩:=id hn.row;obtain⟨va,vc,rfl,_⟩:=hc2.open
 have htl:tb=none∨∃b,tb=some b∧b<h.size:=by
  cases tb with
  |none=>exact .inl rfl
  |some b=>exact .inr ⟨b,rfl,(aS.lt htd htb).2⟩
 obtain⟨oa,c,rfl,_⟩:=(show aS h base 3 1 tv todo.length (todo.map eE) from htd).open;generalize htgt:iH ss (todo.length+rY ss (List.replicate ss.length false)) todo (List.replicate ss.length false)=tgt;refine ai.of func114 rfl rfl ?_;refine aW func114 1 [0,1,4] rfl ?_;refine av rfl ?_;refine br func114 1 rfl ?_;refine xp rfl (aj.aJ underlying121 rfl) ?_;refine aQ 1 [0,1,4,12] rfl ?_;refine aL rfl rfl (fun hz=>?_) (fun hz=>?_)
 · refine aW func114 1 [0,1,4,12] rfl ?_;refine G.ret func114 rfl rfl ?_;have:closed ss todo=[]:=by unfold closed;rw[if_pos (by omega)]
   rw[this];exact⟨_,rfl,cK.nil _ _ _ _,Ext.refl _ _⟩
 · refine aE rfl ?_;refine br func114 2 rfl ?_;refine xp rfl (af (off:=0) underlying120 rfl rfl H.gv rfl) ?_;refine xp rfl (ah H.iw rfl (hn.blk.cell (i:=0) rfl)) ?_;refine xp rfl (aj.aJ underlying118 rfl) ?_;refine xo rfl (aC.pZ underlying151 H.Mi H.Md rfl rfl rfl (by omega) (by decide)) ?_;rintro _ h1 ⟨rfl,hk1,e1⟩;refine aQ 1 [0,1,4,5,12] rfl ?_;refine av rfl ?_;refine G.block rfl rfl ?_;refine bE (σ:=Nat×Value×List Nat×List Bool) (fun q=>[(0,.pointer (some ⟨nb,0,none⟩)),(1,q.2.1),(5,.slice (some ⟨h.size,0,none⟩) ss.length ss.length)]) (fun q h'=>Ext (cT tb) h h'∧cK eE h' base 3 q.2.1 q.2.2.1∧(∀b,q.2.1.ownBlock=some b→tb=some b∨h1.size≤b)∧aS h' h.size 4 1 (.slice (some ⟨h.size,0,none⟩) ss.length ss.length) ss.length (q.2.2.2.map .bool)∧q.2.2.2.length=ss.length∧(∀j∈q.2.2.1,j<ss.length)∧(q.2.2.1.length+rY ss q.2.2.2≤q.1∧q.1≤1000000∧h1.size≤h'.size)∧iH ss q.1 q.2.2.1 q.2.2.2=tgt) (fun q=>q.1) ((todo.length+rY ss (List.replicate ss.length false),.slice oa todo.length c,todo,List.replicate ss.length false)) rfl ⟨rfl,rfl,rfl,trivial⟩ ⟨e1.mono fun _ _ k=>k.elim,aS.l7 htd e1,fun b hb=>.inl (htb.symm.trans hb),by simpa using hk1,by simp,hlt,⟨Nat.le_refl _,hpot,Nat.le_refl _⟩,htgt⟩ ?_;rintro⟨n,dv,td,seen⟩ g ⟨eg,hd,hdo,hs,hsl,hlt',⟨hp,hn1,hgz⟩,hcon⟩ ih
   try dsimp only
   dsimp only at hd hdo hs hsl hlt' hp hn1 hcon;have hz1:h.size<h1.size:=by have:=(aS.lt hk1 rfl).2;exact this
   have hsow:=hs.open;obtain⟨sa,sc,hsv,hsow⟩:=hsow;cases hsv
   rcases Nat.eq_zero_or_pos td.length with hpos|hpos
   · obtain rfl:td=[]:=List.eq_nil_of_length_eq_zero hpos;obtain⟨oad,cd,rfl,_⟩:=(show aS g base 3 1 dv ([]:List Nat).length (([]:List Nat).map eE) from hd).open;rw[Et] at hcon;refine av rfl ?_;refine br func114 1 rfl ?_;refine xp rfl (aj.aJ underlying121 rfl) ?_;refine aQ 1 [0,1,5,21] rfl ?_;refine aI rfl rfl (fun hc=>absurd hc (by simp)) (fun _=>?_);have hnc:∀{h':aD},Ext (cT tb) h h'→cy h' O nb (.slice va ss.length vc) ss st:=fun e=>hn.ext e (fun k=>(hOt nb k.symm).2.1 rfl) (fun b hb k=>(hOt b k.symm).2.2 hb) (fun b _ k=>(hOt b k.symm).1) (fun _ _ k=>k)
     have hcl:closed ss todo=(List.range ss.length).filter (EJ ss seen):=by
      unfold closed;rw[if_neg (by omega),htgt,←hcon];rfl
     refine bz rfl rfl ?_;refine aW func114 1 [0,1,5,7,21] rfl ?_;refine av rfl ?_;refine br func114 1 rfl ?_;refine xp rfl (aj.aJ underlying151 rfl) ?_;refine aQ 1 [0,1,5,7,21,59,60,61] rfl ?_;refine G.block rfl rfl ?_;refine bE (σ:=Nat×Value) (fun q=>[(0,.pointer (some ⟨nb,0,none⟩)),(7,q.2),(59,.slice (some ⟨h.size,0,none⟩) ss.length ss.length),(60,.int .i64 (ss.length:Nat)),(61,.int .i64 (q.1:Nat))]) (fun q h'=>q.1≤ss.length∧aF g h'∧cK eE h' g.size 3 q.2 ((List.range q.1).filter (EJ ss seen))) (fun q=>ss.length-q.1) ((0,.slice none 0 0)) rfl ⟨rfl,rfl,rfl,rfl,rfl,trivial⟩ ⟨Nat.zero_le _,Ext.refl _ _,cK.nil _ _ _ _⟩ ?_;rintro⟨i,ov⟩ g2 ⟨hi,e2,ho2⟩ ih2
     try dsimp only
     dsimp only at hi ho2;have eg2:Ext (cT tb) h g2:=eg.trans (e2.mono fun _ _ k=>k.elim);have hn2:=hnc eg2;have hz2:=e2.size;refine aW func114 1 [0,7,59,60,61,62] rfl ?_;refine av rfl ?_;refine aL rfl rfl (fun hlti=>?_) (fun hlti=>?_)
     · have hil:i<ss.length:=by omega
       obtain⟨bx,hbx⟩:∃bx,seen[i]? =some bx:=⟨_,List.getElem?_eq_getElem (by omega)⟩
       obtain⟨y,hy⟩:∃y,ss[i]? =some y:=⟨_,List.getElem?_eq_getElem hil⟩
       obtain⟨sa2,sc2,hsv2,hsow2⟩:=(aS.l7 hs e2).open;cases hsv2;obtain⟨g',hg',_,hsg,hscell,hsnf⟩:=hsow2.at (i:=i) (x:=.bool bx) (by rw[List.getElem?_map,hbx];rfl);cases hg';obtain⟨gs,cs,ws,hvs,hgs,hrow,hws⟩:=hn2.get hy;cases hvs;have hlen2:((List.range i).filter (EJ ss seen)).length≤i:=by have:=List.length_filter_le (EJ ss seen) (List.range i);simpa using this
       have hnext:(List.range (i+1)).filter (EJ ss seen)=(List.range i).filter (EJ ss seen)++(if EJ ss seen i then [i] else []):=by
        rw[List.range_succ,List.filter_append];cases hpr:EJ ss seen i<;>simp[hpr]
       refine aE rfl ?_;refine av rfl ?_;refine G.block rfl rfl ?_;refine br func114 1 rfl ?_;refine xp rfl (aj.ay underlying151 H.mg rfl rfl i rfl rfl (by omega)) ?_;refine xp rfl (ah H.vC rfl hscell) ?_;refine aQ 2 [0,7,8,9,59,60,61,62] rfl ?_;refine av rfl ?_;refine G.bD [(77,.bool (EJ ss seen i))] [(0,_),(7,_),(8,_),(9,_),(59,_),(60,_),(61,_),(62,_)] ⟨rfl,rfl,rfl,rfl,rfl,rfl,rfl,rfl,trivial⟩ func114 rfl ?_ ?_
       · refine aT 2 rfl ?_;refine aH (d:=67) rfl (fun hg=>?_) (fun hg=>?_)
         · refine bP 2 rfl rfl (af (off:=0) underlying120 rfl rfl H.gv rfl) ?_;refine xp rfl (ah H.iw rfl (hn2.blk.cell (i:=0) rfl)) ?_;refine bP 1 rfl rfl (aj.ay underlying118 H.lW rfl rfl i rfl rfl hil) ?_;refine xp rfl (af (off:=0) underlying132 rfl rfl H.bY rfl) ?_;refine xp rfl (ah H.cG rfl (hrow 0 _ rfl)) ?_;refine aT 2 rfl ?_;refine az rfl ?_;exact⟨rfl,aA rfl (by subst hg;simp[EJ,hbx,hy];by_cases hk0:y.kind=0<;>simp[hk0]),rfl,rfl,rfl,rfl,rfl,rfl,rfl,rfl,trivial⟩
         · refine aT 10 rfl ?_;refine az rfl ?_;exact⟨rfl,aA rfl (by subst hg;simp[EJ,hbx]),rfl,rfl,rfl,rfl,rfl,rfl,rfl,rfl,trivial⟩
       · refine aI rfl rfl (fun hb=>?_) (fun hb=>?_)
         · rw[if_pos hb] at hnext;refine G.bT func114 rfl ?_;refine aT 2 rfl ?_;refine xo rfl (aC.aZ (us:=[_]) underlying121 H.qw rfl rfl (by decide) (by simp[Value.oneCell'])) ?_;rintro _ _ ⟨rfl,rfl⟩;refine xo rfl (aC.bO underlying121 H.qw rfl rfl (ho2) rfl rfl (by first|decide|simp[Value.oneCell']) (by omega) (by decide) (by omega)) ?_;rintro ov3 g3 ⟨ho3,hx3,-,hv3⟩;refine aQ 1 [0,7,8,9,59,60,61,62,77] rfl ?_;refine G.aN ?_;refine G.bT func114 rfl ?_;refine xp rfl (aj.bA rfl rfl ⟨by omega,by omega⟩) ?_;refine aQ 1 [0,7,8,9,59,60,61,62,77] rfl ?_;have ho3':cK eE g3 g.size 3 ov3 ((List.range (i+1)).filter (EJ ss seen)):=by rw[hnext];exact cK.of (ys:=[i]) ho3 rfl rfl rfl
           have e3:aF g g3:=cK.grown e2 ho2 (Nat.le_refl _) hx3;exact ih2 (i+1,ov3) _ _ ⟨rfl,rfl,rfl,rfl,rfl,trivial⟩ ⟨by show i+1≤_;omega,e3,ho3'⟩ (by show ss.length-(i+1)<ss.length-i;omega)
         · rw[if_neg (by rw[hb];decide)] at hnext;rw[List.append_nil] at hnext;rw[←hnext] at ho2;refine aE rfl ?_;refine G.aN ?_;refine G.bT func114 rfl ?_;refine xp rfl (aj.bA rfl rfl ⟨by omega,by omega⟩) ?_;refine aQ 1 [0,7,8,9,59,60,61,62,77] rfl ?_;exact ih2 (i+1,ov) _ _ ⟨rfl,rfl,rfl,rfl,rfl,trivial⟩ ⟨by show i+1≤_;omega,e2,ho2⟩ (by show ss.length-(i+1)<ss.length-i;omega)
     · obtain rfl:i=ss.length:=by omega
       refine bz rfl rfl ?_;refine aW func114 2 [0,4,7,59,60,61,62] rfl ?_;refine G.ret func114 rfl rfl ?_;rw[hcl];exact⟨_,rfl,pg ho2 (by omega),eg2⟩
   · obtain⟨m,hm⟩:∃m,td.length=m+1:=⟨td.length-1,by omega⟩
     obtain⟨gd,cd,x,rfl,hcd,hgd,hbd,hcell,hlast,hcut,hcb⟩:=Fv hd hm;have hgl:td.getLast? =some x:=by rw[hlast];simp
     have hxl:x<ss.length:=hlt' x (by rw[hlast];simp);have hltd:∀j∈td.dropLast,j<ss.length:=fun j hj=>hlt' j (List.dropLast_subset _ hj)
     have hdl:td.dropLast.length=m:=by simp[hm]
     obtain⟨n,rfl⟩:∃n',n=n'+1:=⟨n-1,by omega⟩
     obtain⟨bx,hbx⟩:∃bx,seen[x]? =some bx:=⟨_,List.getElem?_eq_getElem (by omega)⟩
     obtain⟨y,hy⟩:∃y,ss[x]? =some y:=⟨_,List.getElem?_eq_getElem hxl⟩
     obtain⟨g',hg',_,hsg,hscell,hsnf⟩:=hsow.at (i:=x) (x:=.bool bx) (by rw[List.getElem?_map,hbx];rfl);cases hg';refine av rfl ?_;refine br func114 1 rfl ?_;refine xp rfl (aj.aJ underlying121 rfl) ?_;refine aQ 1 [0,1,5,21] rfl ?_;refine aI rfl rfl (fun _=>?_) (fun hc=>absurd hc (by simp only[decide_eq_false_iff_not];omega));refine aE rfl ?_;refine G.block rfl rfl ?_;refine br func114 2 rfl ?_;refine xp rfl (aj.aJ underlying121 rfl) ?_;refine xp rfl (aj.iF rfl rfl ⟨by omega,by omega⟩) ?_;refine xp rfl (aj.ay underlying121 H.bY rfl rfl m (by omega) rfl (by omega)) ?_;refine xp rfl (ah H.cG rfl hcell) ?_;refine aQ 1 [0,1,5,6,21] rfl ?_;refine br func114 2 rfl ?_;refine xp rfl (aj.aJ underlying121 rfl) ?_;refine xp rfl (aj.iF rfl rfl ⟨by omega,by omega⟩) ?_;refine xp rfl (aj.lg underlying121 H.bY rfl rfl m (by omega) (by omega)) ?_;refine aQ 1 [0,1,5,6,21] rfl ?_;refine av rfl ?_;refine br func114 2 rfl ?_;refine xp rfl (aj.ay underlying151 H.mg rfl rfl x rfl rfl (by omega)) ?_;refine xp rfl (ah H.vC rfl hscell) ?_;refine xd [0,1,5,6,21,36] rfl ?_;refine aI rfl rfl (fun hb=>?_) (fun hb=>?_)
     · subst hb;rw[Co hgl hbx] at hcon;refine bz rfl rfl ?_;exact ih (n,_,td.dropLast,seen) _ _ ⟨rfl,rfl,rfl,trivial⟩ ⟨eg,hcut,fun b hb=>hdo b (by rw[←hb];exact hcb▸rfl),hs,hsl,hltd,⟨by show td.dropLast.length+rY ss seen≤n;omega,by show n≤_;omega,hgz⟩,hcon⟩ (by show n<n+1;omega)
     · subst hb;rw[Eu hgl hbx hy] at hcon;have hpt:=yq ss seen x y hy hbx
       have hgne:¬gd=h.size:=fun k=>by
        rcases hdo gd rfl with k2|k2
        · rcases htl with k3|⟨b3,k3,k4⟩
          · rw[k3] at k2;cases k2
          · rw[k3] at k2;cases k2;omega
        · omega
       refine aE rfl ?_;refine br func114 2 rfl ?_;refine xp rfl (aj.ay underlying151 H.mg rfl rfl x rfl rfl (by omega)) ?_;refine RW.bZ rfl rfl rfl (cE H.mg rfl rfl rfl hscell hsnf) ?_;rintro _ g2 ⟨rfl,hg2⟩;have x2:Ext (fun b=>b=h.size) g g2:=by rw[hg2];exact Ext.ey _ _ _ rfl
       have hz2:=x2.size;have eg2:Ext (cT tb) h g2:=⟨by omega,fun b hb hn=>by rw[x2.block b (by omega) (by omega)];exact eg.block b hb hn⟩
       have hs2:aS g2 h.size 4 1 (.slice (some ⟨h.size,0,none⟩) ss.length ss.length) ss.length ((seen.set x true).map .bool):=by
        have k:=(hsow.set (i:=x) rfl hxl (.bool true)).own;rw[←hg2] at k;rw[List.map_set];exact k
       have hcut2:aS g2 base 3 1 _ td.dropLast.length (td.dropLast.map eE):=aS.ext x2 hcut (fun b hb k=>hgne (by have:=hcb.symm.trans hb;cases this;exact k));have hn2:cy g2 O nb _ ss st:=hn.ext eg2 (fun k=>(hOt nb k.symm).2.1 rfl) (fun b hb k=>(hOt b k.symm).2.2 hb) (fun b _ k=>(hOt b k.symm).1) (fun _ _ k=>k);obtain⟨gs,cs,ws,hvs,hgs,hrow,hws⟩:=hn2.get hy;cases hvs;have hsl2:(seen.set x true).length=ss.length:=by simpa using hsl
       refine xd [0,1,5,6,21,36] rfl ?_;refine br func114 2 rfl ?_;refine xp rfl (af (off:=0) underlying120 rfl rfl H.gv rfl) ?_;refine xp rfl (ah H.iw rfl (hn2.blk.cell (i:=0) rfl)) ?_;refine bP 1 rfl rfl (aj.ay underlying118 H.lW rfl rfl x rfl rfl hxl) ?_;refine xp rfl (af (off:=0) underlying132 rfl rfl H.bY rfl) ?_;refine xp rfl (ah H.cG rfl (hrow 0 _ rfl)) ?_;refine aQ 1 [0,1,5,6,21,36,48] rfl ?_;refine aL rfl rfl (fun hk=>?_) (fun hk=>?_)
       · rw[if_pos (by omega)] at hcon;obtain⟨wa,wn,wc,rfl,_⟩:=id hws;obtain⟨hwl,hwn,hwm⟩:=Bo hws;rw[hdl] at hcut2;refine G.bT func114 rfl ?_;refine bP 3 rfl rfl (af (off:=0) underlying120 rfl rfl H.gv rfl) ?_;refine xp rfl (ah H.iw rfl (hn2.blk.cell (i:=0) rfl)) ?_;refine bP 1 rfl rfl (aj.ay underlying118 H.lW rfl rfl x rfl rfl hxl) ?_;refine xp rfl (af (off:=5) underlying132 rfl rfl H.gI rfl) ?_;refine xp rfl (ah H.ou rfl (hrow 5 _ rfl)) ?_;refine xo rfl (aC.append underlying121 H.qw rfl rfl hcut2 (by simp[hwl]) hwn (by intro u hu;simp at hu;obtain⟨j,_,rfl⟩:=hu;rfl) (by simp only[maxLen];omega) (by omega) (by omega)) ?_;rintro dv3 g3 ⟨hd3,ex3,-,ho3⟩;refine aQ 1 [0,1,5,6,21,36,48] rfl ?_;refine G.aN ?_;have hz3:=ex3.size;rw[hcb] at ex3 ho3
         have hd3':cK eE g3 base 3 dv3 (td.dropLast++y.to):=by
          unfold cK;rw[List.length_append,hdl,hwl,List.map_append];exact hd3
         have hdo3:∀b,dv3.ownBlock=some b→tb=some b∨h1.size≤b:=fun b hb=>by
          rcases ho3 b hb with k|k
          · exact hdo b k
          · exact .inr (by omega)
         have eg3:Ext (cT tb) h g3:=⟨by omega,fun b hb hn=>by
          rw[ex3.block b (by omega) ?_]
          · exact eg2.block b hb hn
          · intro k;cases k
            rcases hdo gd rfl with k2|k2
            · exact hn k2.symm
            · omega⟩
         have hgood':∀j∈td.dropLast++y.to,j<ss.length:=fun j hj=>by
          rcases List.mem_append.1 hj with k|k
          · exact hltd j k
          · exact hgood y (List.mem_of_getElem? hy) j k
         exact ih (n,dv3,td.dropLast++y.to,seen.set x true) _ _ ⟨rfl,rfl,rfl,trivial⟩ ⟨eg3,hd3',hdo3,aS.ext ex3 hs2 (fun b hb k=>by cases k;cases hb;exact hgne rfl),hsl2,hgood',⟨by show (td.dropLast++y.to).length+rY ss (seen.set x true)≤n;rw[List.length_append];omega,by show n≤_;omega,by show h1.size≤g3.size;omega⟩,hcon⟩ (by show n<n+1;omega)
       · rw[if_neg (by omega)] at hcon;refine aE rfl ?_;refine G.aN ?_;exact ih (n,_,td.dropLast,seen.set x true) _ _ ⟨rfl,rfl,rfl,trivial⟩ ⟨eg2,hcut2,fun b hb=>hdo b (by rw[←hb];exact hcb▸rfl),hs2,hsl2,hltd,⟨by show td.dropLast.length+rY ss (seen.set x true)≤n;omega,by show n≤_;omega,by show h1.size≤g2.size;omega⟩,hcon⟩ (by show n<n+1;omega)
theorem zV (hn:cy h O nb v ss st) (hgood:Good ss) (hss:ss.length≤1000000) (hst:ss.length=0∨st<ss.length) (hpot:1+rY ss (List.replicate ss.length false)≤1000000) :
 ai Tryz.prog 66 #[.pointer (some ⟨nb,0,none⟩)] h (cL fun r h'=>cK eE h' h.size 3 r (cH ss st)∧aF h h'):=by
 have hown:=hn.own;have hnlt:=hn.blk.lt;refine ai.of func66 rfl rfl ?_;refine aW func66 1 [0,2] rfl ?_;refine av rfl ?_;refine br func66 1 rfl ?_;refine xo rfl (aq (vs:=[_]) func113 rfl H.FJ rfl (ai.bw (oG hn))) ?_;rintro _ h0 ⟨rfl,hh0⟩;refine xd [0,2,4] rfl ?_;subst hh0;refine aL rfl rfl (fun hz=>?_) (fun hz=>?_)
 · refine aW func66 1 [0,2,4] rfl ?_;refine G.ret func66 rfl rfl ?_;rw[cH,if_pos hz];exact⟨_,rfl,cK.nil _ _ _ _,Ext.refl _ _⟩
 · have hn1:cy (h0.push (.cells #[.int .i64 (st:Nat)] 3)) (fun b=>O b∨b=h0.size) nb v ss st:=hn.ax (Ext.push _ _ _) (fun b hb k=>k.elim id (fun k=>by omega));have ho1:cK eE (h0.push (.cells #[.int .i64 (st:Nat)] 3)) h0.size 3 (.slice (some ⟨h0.size,0,none⟩) 1 1) [st]:=jo eE h0 3 [st] 1 rfl (by simp[maxLen]) h0.size (Nat.le_refl _) rfl;refine aE rfl ?_;refine br func66 3 rfl ?_;refine xp rfl (af (off:=1) underlying120 rfl rfl H.bY rfl) ?_;refine xp rfl (ah H.cG rfl (hn.blk.cell (i:=1) rfl)) ?_;refine xo rfl (aC.aZ (us:=[_]) underlying121 H.qw rfl rfl (by decide) (by simp[Value.oneCell'])) ?_;rintro _ _ ⟨rfl,rfl⟩;refine xo rfl (aq (vs:=[_,_]) func114 rfl H.Iv rfl (ai.bw (qB (tb:=some h0.size) hn1 hgood hss ho1 rfl (by simp) (fun b hb=>by cases hb;exact⟨.inr rfl,by omega,fun k=>by have:=(hown _ k).2;omega⟩) (fun j hj=>by simp at hj;omega) hpot))) ?_;rintro _ h2 ⟨ho2,hx2⟩;refine aQ 1 [0,2,4] rfl ?_;refine G.ret func66 rfl rfl ?_;rw[cH,if_neg hz];have hps:(h0.push (.cells #[.int .i64 (st:Nat)] 3)).size=h0.size+1:=by simp
   refine⟨_,rfl,pg ho2 (by omega),⟨by have:=hx2.size;omega,fun b hb _=>?_⟩⟩;rw[hx2.block b (by omega) (fun k=>by cases k;omega)];exact(Ext.push (fun _=>False) h0 _).block b hb (fun k=>k)
theorem wD {nv:Value}{now:List Nat}(hn:cy h O nb v ss st) (_hss:ss.length≤1000000) (hnow:bU iz h (fun _=>False) nv now) (hlt:∀j∈now,j<ss.length) (hnn:now.length≤1000000) :
 ai Tryz.prog 69 #[.pointer (some ⟨nb,0,none⟩),nv] h (cL fun r h'=>r= .int .i64 (bK ss now)∧h'=h):=by
 obtain⟨css,hc1,hc2,hc3⟩:=id hn.row;obtain⟨va,vc,rfl,_⟩:=hc2.open;obtain⟨na,nn,nc,rfl,hnl,hnc,hnm,hget⟩:=id hnow;generalize htgt:qI ss now (-1)=tgt;refine ai.of func69 rfl rfl ?_;refine aW func69 1 [0,1,4] rfl ?_;refine aW func69 1 [0,1,4,5] rfl ?_;refine av rfl ?_;refine br func69 1 rfl ?_;refine xo rfl (aq (vs:=[_]) func113 rfl H.FJ rfl (ai.bw (oG hn))) ?_;rintro _ h0 ⟨rfl,hh0⟩;refine xd [0,1,4,5,9] rfl ?_;subst hh0;refine aL rfl rfl (fun hz=>?_) (fun hz=>?_)
 · refine aW func69 2 [0,1,4,5,9] rfl ?_;refine G.ret func69 rfl rfl ?_;rw[bK,if_pos hz];exact⟨_,rfl,rfl,rfl⟩
 · refine aE rfl ?_;refine av rfl ?_;refine br func69 1 rfl ?_;refine xp rfl (aj.aJ underlying121 rfl) ?_;refine aQ 1 [0,1,4,5,9,11,12,13] rfl ?_;refine G.block rfl rfl ?_;refine bE (σ:=Nat×Int) (fun q=>[(0,.pointer (some ⟨nb,0,none⟩)),(5,.int .i64 q.2),(11,.slice na nn nc),(12,.int .i64 (nn:Nat)),(13,.int .i64 (q.1:Nat))]) (fun q h'=>h'=h0∧q.1≤nn∧qI ss (now.drop q.1) q.2=tgt) (fun q=>nn-q.1) ((0,-1)) rfl ⟨rfl,rfl,rfl,rfl,rfl,trivial⟩ ⟨rfl,Nat.zero_le _,htgt⟩ ?_;rintro⟨i,b⟩ h1 ⟨rfl,hi,hcon⟩ ih
   try dsimp only
   dsimp only at hi hcon;refine aW func69 1 [0,5,11,12,13,14] rfl ?_;refine av rfl ?_;refine aL rfl rfl (fun hlti=>?_) (fun hlti=>?_)
   · obtain⟨j,hj⟩:∃j,now[i]? =some j:=⟨_,List.getElem?_eq_getElem (by omega)⟩
     obtain⟨bb,o,cs,ha,_,hrow,rfl⟩:=hget i j hj;have hjl:j<ss.length:=hlt j (List.mem_of_getElem? hj);obtain⟨y,hy⟩:∃y,ss[j]? =some y:=⟨_,List.getElem?_eq_getElem hjl⟩
     obtain⟨gs,cs,ws,hvs,hgs,hrw,hws⟩:=hn.get hy;cases hvs
     have hdr:now.drop i=j::now.drop (i+1):=by
      obtain⟨hi',rfl⟩:=List.getElem?_eq_some_iff.1 hj;exact List.drop_eq_getElem_cons hi'
     rw[hdr,qI,hy] at hcon;simp only at hcon;refine aE rfl ?_;refine av rfl ?_;refine G.block rfl rfl ?_;refine xr func69 rfl ?_;refine xp rfl (aj.ay underlying121 H.bY rfl rfl i rfl ha (by omega)) ?_;refine xp rfl (ah H.cG rfl (hrow 0 _ rfl)) ?_;refine aQ 1 [0,5,7,11,12,13,14] rfl ?_;refine av rfl ?_;refine G.bD [(54,.bool (qH y b))] [(0,_),(5,_),(7,_),(11,_),(12,_),(13,_),(14,_)] ⟨rfl,rfl,rfl,rfl,rfl,rfl,rfl,trivial⟩ func69 rfl ?_ ?_
     · refine aT 3 rfl ?_;refine RW.cW (d:=19) (b':=true) rfl (decide_eq_true (by omega)) ?_;refine bP 3 rfl rfl (af (off:=0) underlying120 rfl rfl H.gv rfl) ?_;refine xp rfl (ah H.iw rfl (hn.blk.cell (i:=0) rfl)) ?_;refine xp rfl (aj.aJ underlying118 rfl) ?_;refine aT 3 rfl ?_;refine RW.cW (d:=28) (b':=true) rfl (decide_eq_true (by omega)) ?_;refine bP 2 rfl rfl (af (off:=0) underlying120 rfl rfl H.gv rfl) ?_;refine xp rfl (ah H.iw rfl (hn.blk.cell (i:=0) rfl)) ?_;refine bP 1 rfl rfl (aj.ay underlying118 H.lW rfl rfl j rfl rfl hjl) ?_;refine xp rfl (af (off:=0) underlying132 rfl rfl H.bY rfl) ?_;refine xp rfl (ah H.cG rfl (hrw 0 _ rfl)) ?_;refine aT 3 rfl ?_;refine aH (d:=39) rfl (fun hk=>?_) (fun hk=>?_)
       · have hk':=of_decide_eq_true hk;refine aT 3 rfl ?_;refine aH (d:=42) rfl (fun hb=>?_) (fun hb=>?_)
         · have hb':=of_decide_eq_true hb;refine aT 12 rfl ?_;refine az rfl ?_;exact⟨rfl,aA rfl (by simp[qH];omega),rfl,rfl,rfl,rfl,rfl,rfl,rfl,trivial⟩
         · have hb':=of_decide_eq_false hb;refine bP 2 rfl rfl (af (off:=0) underlying120 rfl rfl H.gv rfl) ?_;refine xp rfl (ah H.iw rfl (hn.blk.cell (i:=0) rfl)) ?_;refine bP 1 rfl rfl (aj.ay underlying118 H.lW rfl rfl j rfl rfl hjl) ?_;refine xp rfl (af (off:=6) underlying132 rfl rfl H.bY rfl) ?_;refine xp rfl (ah H.cG rfl (hrw 6 _ rfl)) ?_;refine aT 4 rfl ?_;refine az rfl ?_;exact⟨rfl,aA rfl (by simp only[qH,decide_eq_decide];omega),rfl,rfl,rfl,rfl,rfl,rfl,rfl,trivial⟩
       · have hk':=of_decide_eq_false hk;refine aT 15 rfl ?_;refine az rfl ?_;exact⟨rfl,aA rfl (by simp[qH];omega),rfl,rfl,rfl,rfl,rfl,rfl,rfl,trivial⟩
     · refine aI rfl rfl (fun hb=>?_) (fun hb=>?_)
       · rw[if_pos hb] at hcon;refine G.bT func69 rfl ?_;refine bP 2 rfl rfl (af (off:=0) underlying120 rfl rfl H.gv rfl) ?_;refine xp rfl (ah H.iw rfl (hn.blk.cell (i:=0) rfl)) ?_;refine bP 1 rfl rfl (aj.ay underlying118 H.lW rfl rfl j rfl rfl hjl) ?_;refine xp rfl (af (off:=6) underlying132 rfl rfl H.bY rfl) ?_;refine xp rfl (ah H.cG rfl (hrw 6 _ rfl)) ?_;refine aQ 1 [0,5,7,11,12,13,14,54] rfl ?_;refine G.aN ?_;refine G.bT func69 rfl ?_;refine xp rfl (aj.bA rfl rfl ⟨by omega,by omega⟩) ?_;refine aQ 1 [0,5,7,11,12,13,14,54] rfl ?_;exact ih (i+1,(y.rule:Int)) _ _ ⟨rfl,rfl,rfl,rfl,rfl,trivial⟩ ⟨rfl,by show i+1≤nn;omega,hcon⟩ (by show nn-(i+1)<nn-i;omega)
       · rw[if_neg (by rw[hb];decide)] at hcon;refine aE rfl ?_;refine G.aN ?_;refine G.bT func69 rfl ?_;refine xp rfl (aj.bA rfl rfl ⟨by omega,by omega⟩) ?_;refine aQ 1 [0,5,7,11,12,13,14,54] rfl ?_;exact ih (i+1,b) _ _ ⟨rfl,rfl,rfl,rfl,rfl,trivial⟩ ⟨rfl,by show i+1≤nn;omega,hcon⟩ (by show nn-(i+1)<nn-i;omega)
   · have hnil:now.drop i=[]:=List.drop_of_length_le (by omega);rw[hnil,qI] at hcon;refine bz rfl rfl ?_;refine aW func69 2 [0,4,5,11,12,13,14] rfl ?_;refine G.ret func69 rfl rfl ?_;rw[bK,if_neg hz,htgt];exact⟨_,rfl,by rw[hcon];rfl,rfl⟩
theorem BN {nv:Value}{now:List Nat}(c:UInt8) (hn:cy h O nb v ss st) (hgood:Good ss) (hss:ss.length≤1000000) (hnow:bU iz h (fun _=>False) nv now) (hlt:∀j∈now,j<ss.length) (hnn:now.length≤1000000)
 (hpot:(stepG ss c now []).length+rY ss (List.replicate ss.length false)≤1000000) :
 ai Tryz.prog 68 #[.pointer (some ⟨nb,0,none⟩),nv,.int .u8 (c.toNat:Nat)] h (cL fun r h'=>cK eE h' h.size 3 r (cR ss c now)∧aF h h'):=by
 have hown:=hn.own;have hnlt:=hn.blk.lt;obtain⟨css,hc1,hc2,hc3⟩:=id hn.row;obtain⟨va,vc,rfl,_⟩:=hc2.open;obtain⟨na,nn,nc,rfl,hnl,hnc,hnm,hget⟩:=id hnow;generalize htgt:stepG ss c now []=tgt at *;refine ai.of func68 rfl rfl ?_;refine aW func68 1 [0,1,2,6] rfl ?_;refine av rfl ?_;refine br func68 1 rfl ?_;refine xo rfl (aq (vs:=[_]) func113 rfl H.FJ rfl (ai.bw (oG hn))) ?_;rintro _ h0 ⟨rfl,hh0⟩;refine xd [0,1,2,6,11] rfl ?_;subst hh0;refine aL rfl rfl (fun hz=>?_) (fun hz=>?_)
 · refine aW func68 1 [0,1,2,6,11] rfl ?_;refine G.ret func68 rfl rfl ?_;rw[cR,if_pos hz];exact⟨_,rfl,cK.nil _ _ _ _,Ext.refl _ _⟩
 · refine aE rfl ?_;refine aW func68 1 [0,1,2,6,7,11] rfl ?_;refine av rfl ?_;refine br func68 1 rfl ?_;refine xp rfl (aj.aJ underlying121 rfl) ?_;refine aQ 1 [0,1,2,6,7,11,12,13,14] rfl ?_;refine G.block rfl rfl ?_;refine bE (σ:=Nat×Value×List Nat) (fun q=>[(0,.pointer (some ⟨nb,0,none⟩)),(2,.int .u8 (c.toNat:Nat)),(7,q.2.1),(12,.slice na nn nc),(13,.int .i64 (nn:Nat)),(14,.int .i64 (q.1:Nat))]) (fun q h'=>aF h0 h'∧q.1≤nn∧cK eE h' h0.size 3 q.2.1 q.2.2∧(∀j∈q.2.2,j<ss.length)∧stepG ss c (now.drop q.1) q.2.2=tgt) (fun q=>nn-q.1) ((0,.slice none 0 0,[])) rfl ⟨rfl,rfl,rfl,rfl,rfl,rfl,trivial⟩ ⟨Ext.refl _ _,Nat.zero_le _,cK.nil _ _ _ _,(fun j hj=>by cases hj),htgt⟩ ?_;rintro⟨i,ov,acc⟩ h1 ⟨e1,hi,ho,hal,hcon⟩ ih
   try dsimp only
   dsimp only at hi ho hal hcon;have hz1:=e1.size;have hn1:cy h1 O nb (.slice va ss.length vc) ss st:=hn.ax e1 (fun _ _ k=>k);have hacc:acc.length≤tgt.length:=by rw[←hcon];exact qQ _ _ _ _
   refine aW func68 1 [0,2,7,12,13,14,15] rfl ?_;refine av rfl ?_;refine aL rfl rfl (fun hlti=>?_) (fun hlti=>?_)
   · obtain⟨j,hj⟩:∃j,now[i]? =some j:=⟨_,List.getElem?_eq_getElem (by omega)⟩
     obtain⟨bb,o,cs,ha,_,hrow,rfl⟩:=hget i j hj;have hjl:j<ss.length:=hlt j (List.mem_of_getElem? hj);obtain⟨y,hy⟩:∃y,ss[j]? =some y:=⟨_,List.getElem?_eq_getElem hjl⟩
     obtain⟨gs,cs,ws,hvs,hgs,hrw,hws⟩:=hn1.get hy;cases hvs
     have hdr:now.drop i=j::now.drop (i+1):=by
      obtain⟨hi',rfl⟩:=List.getElem?_eq_some_iff.1 hj;exact List.drop_eq_getElem_cons hi'
     rw[hdr,stepG,hy] at hcon;simp only at hcon;have hrow1:Lw.rowAt h1 bb (o+i*1) [eE j]:=e1.rowAt (fun k=>k) hrow
     have hset:Lw.rowAt h1 gs (0+j*7+1) (u9 y.set):=fun q u hu=>by
      have hq:(DH y.kind y.set ws y.rule)[1+q]? =some u:=by
       match q with
       | 0=>exact hu
       | 1=>exact hu
       | 2=>exact hu
       | 3=>exact hu
       |q+4=>simp[u9] at hu
      have:=hrw (1+q) u hq
      rwa [←Nat.add_assoc] at this
     refine aE rfl ?_;refine av rfl ?_;refine G.block rfl rfl ?_;refine xr func68 rfl ?_;refine xp rfl (aj.ay underlying121 H.bY rfl rfl i rfl ha (by omega)) ?_;refine xp rfl (ah H.cG rfl (hrow1 0 _ rfl)) ?_;refine aQ 1 [0,2,7,9,12,13,14,15] rfl ?_;refine av rfl ?_;refine G.mH (fun(_u:Unit) (h':aD)=>aF h1 h') (fun(_u:Unit)=>[(51,.bool (iT y c))]) [(0,_),(2,_),(7,_),(9,_),(12,_),(13,_),(14,_),(15,_)] ⟨rfl,rfl,rfl,rfl,rfl,rfl,rfl,rfl,trivial⟩ func68 rfl ?_ ?_
     · refine aT 3 rfl ?_;refine RW.cW (d:=20) (b':=true) rfl (decide_eq_true (by omega)) ?_;refine bP 3 rfl rfl (af (off:=0) underlying120 rfl rfl H.gv rfl) ?_;refine xp rfl (ah H.iw rfl (hn1.blk.cell (i:=0) rfl)) ?_;refine xp rfl (aj.aJ underlying118 rfl) ?_;refine aT 3 rfl ?_;refine RW.cW (d:=29) (b':=true) rfl (decide_eq_true (by omega)) ?_;refine bP 2 rfl rfl (af (off:=0) underlying120 rfl rfl H.gv rfl) ?_;refine xp rfl (ah H.iw rfl (hn1.blk.cell (i:=0) rfl)) ?_;refine bP 1 rfl rfl (aj.ay underlying118 H.lW rfl rfl j rfl rfl hjl) ?_;refine xp rfl (af (off:=0) underlying132 rfl rfl H.bY rfl) ?_;refine xp rfl (ah H.cG rfl (hrw 0 _ rfl)) ?_;refine aT 3 rfl ?_;refine aH (d:=40) rfl (fun hk=>?_) (fun hk=>?_)
       · have hk':=of_decide_eq_true hk;have hk2:y.kind=1:=by omega
         refine bP 2 rfl rfl (af (off:=0) underlying120 rfl rfl H.gv rfl) ?_;refine xp rfl (ah H.iw rfl (hn1.blk.cell (i:=0) rfl)) ?_;refine bP 1 rfl rfl (aj.ay underlying118 H.lW rfl rfl j rfl rfl hjl) ?_;refine xp rfl (af (off:=1) underlying132 rfl rfl H.lX rfl) ?_;refine xp rfl (aj.aG H.IK H.lX rfl hset (by first|rfl|(simp;done)|(simp;omega))) ?_;refine aT 1 rfl ?_;refine xo rfl (aq (vs:=[_,_]) func116 rfl H.Kr rfl (ai.bw (Ek y.set c))) ?_;rintro _ h2 ⟨rfl,e2⟩;refine aT 1 rfl ?_;refine az rfl ?_;exact⟨(),e2,aA rfl (by simp[iT,hk2]),rfl,rfl,rfl,rfl,rfl,rfl,rfl,rfl,trivial⟩
       · have hk':=of_decide_eq_false hk;have hk2:¬y.kind=1:=by omega
         refine aT 11 rfl ?_;refine az rfl ?_;exact⟨(),Ext.refl _ _,aA rfl (by simp[iT,hk2]),rfl,rfl,rfl,rfl,rfl,rfl,rfl,rfl,trivial⟩
     · rintro _ h2 e2;have e02:=e1.trans e2;have ho2:cK eE h2 h0.size 3 ov acc:=cK.ax ho e2;have hn2:cy h2 O nb _ ss st:=hn.ax e02 (fun _ _ k=>k);have hz2:=e02.size;refine aI rfl rfl (fun hb=>?_) (fun hb=>?_)
       · rw[if_pos hb] at hcon;have hacc2:(acc++y.to).length≤tgt.length:=by rw[←hcon];exact qQ _ _ _ _
         rw[List.length_append] at hacc2;obtain⟨gs,cs,ws,hvs,hgs,hrw2,hws2⟩:=hn2.get hy;cases hvs;obtain⟨wa,wn,wc,rfl,_⟩:=id hws2;obtain⟨hwl,hwn,hwm⟩:=Bo hws2;refine G.bT func68 rfl ?_;refine bP 3 rfl rfl (af (off:=0) underlying120 rfl rfl H.gv rfl) ?_;refine xp rfl (ah H.iw rfl (hn2.blk.cell (i:=0) rfl)) ?_;refine bP 1 rfl rfl (aj.ay underlying118 H.lW rfl rfl j rfl rfl hjl) ?_;refine xp rfl (af (off:=5) underlying132 rfl rfl H.gI rfl) ?_;refine xp rfl (ah H.ou rfl (hrw2 5 _ rfl)) ?_;refine xo rfl (aC.append underlying121 H.qw rfl rfl ho2 (by simp[hwl]) hwn (by intro u hu;simp at hu;obtain⟨j,_,rfl⟩:=hu;rfl) (by simp only[maxLen];omega) (by omega) (by omega)) ?_;rintro ov3 h3 ⟨ho3,hx3,-,hv3⟩;refine aQ 1 [0,2,7,9,12,13,14,15,51] rfl ?_;refine G.aN ?_;refine G.bT func68 rfl ?_;refine xp rfl (aj.bA rfl rfl ⟨by omega,by omega⟩) ?_;refine aQ 1 [0,2,7,9,12,13,14,15,51] rfl ?_
         have ho3':cK eE h3 h0.size 3 ov3 (acc++y.to):=by
          unfold cK;rw[List.length_append,hwl,List.map_append];exact ho3
         have e3:aF h0 h3:=cK.grown e02 ho2 (Nat.le_refl _) hx3
         have hal3:∀j∈acc++y.to,j<ss.length:=fun j hj=>by
          rcases List.mem_append.1 hj with k|k
          · exact hal j k
          · exact hgood y (List.mem_of_getElem? hy) j k
         exact ih (i+1,ov3,acc++y.to) _ _ ⟨rfl,rfl,rfl,rfl,rfl,rfl,trivial⟩ ⟨e3,by show i+1≤nn;omega,ho3',hal3,hcon⟩ (by show nn-(i+1)<nn-i;omega)
       · rw[if_neg (by rw[hb];decide)] at hcon;refine aE rfl ?_;refine G.aN ?_;refine G.bT func68 rfl ?_;refine xp rfl (aj.bA rfl rfl ⟨by omega,by omega⟩) ?_;refine aQ 1 [0,2,7,9,12,13,14,15,51] rfl ?_;exact ih (i+1,ov,acc) _ _ ⟨rfl,rfl,rfl,rfl,rfl,rfl,trivial⟩ ⟨e02,by show i+1≤nn;omega,ho2,hal,hcon⟩ (by show nn-(i+1)<nn-i;omega)
   · have hnil:now.drop i=[]:=List.drop_of_length_le (by omega);rw[hnil,stepG] at hcon;subst hcon;have hol:∀b,ov.ownBlock=some b→h0.size≤b∧b<h1.size:=fun b hb=>aS.lt ho hb
     have hn':cy h1 (fun b=>O b∨cT ov.ownBlock b) nb (.slice va ss.length vc) ss st:=hn.ax e1 (fun b hb k=>k.elim id (fun k=>by have:=(hol b k.symm).1;omega));refine bz rfl rfl ?_;refine br func68 2 rfl ?_;refine xo rfl (aq (vs:=[_,_]) func114 rfl H.Iv rfl (ai.bw (qB (tb:=ov.ownBlock) hn' hgood hss ho rfl (by omega) (fun b hb=>⟨.inr hb.symm,by have:=hol b hb;omega,fun k=>by have:=hol b hb;have:=(hown b k).2;omega⟩) hal hpot))) ?_;rintro _ h2 ⟨ho2,hx2⟩;refine aQ 1 [0,2,6,7,12,13,14,15] rfl ?_;refine G.ret func68 rfl rfl ?_;rw[cR,if_neg hz,htgt];refine⟨_,rfl,pg ho2 (by omega),⟨by have:=hx2.size;omega,fun b hb _=>?_⟩⟩;rw[hx2.block b (by omega) (fun k=>by have:=hol b k.symm;omega)];exact e1.block b hb (fun k=>k)
theorem qK {α:Type}{e:gG α}{Q Q':Nat→Prop}{xs:List α}(k:bU e h Q v xs) (hq:∀b,Q' b→Q b):bU e h Q' v xs:=k.mv ⟨Nat.le_refl _,fun b _ hn=>⟨rfl,fun k=>hn (hq b k)⟩⟩
end
end Go.Proofs.YtedocgkapmeceaaGreatDoor
namespace Go.Proofs.YtedocgkapmeceaaGreatDoor
section
variable {F ss:List b6}{fin:Nat→Prop}{n to i st:Nat}{x:b6}{w:By}{todo:List Nat}
inductive xL (A:By→Prop):By→Prop where
 |nil:xL A []
 |cons {u v:By}:A u→xL A v→xL A (u++v)
end
mutual
def GW:Nd→By→Prop
 |.mk k s kids=>fun w =>
  if k=1 then ∃c:UInt8,w=[c]∧s.testBit c.toNat=true
  else if k=2 then vR kids w
  else if k=3 then rO kids w
  else if k=6 then w=[]∨pz kids w
  else if k=4 then xL (pz kids) w
  else if k=5 then ∃u v,w=u++v∧pz kids u∧xL (pz kids) v
  else w=[]
def vR:List Nd→By→Prop
 | []=>fun w=>w=[]
 |x::r=>fun w=>∃u v,w=u++v∧GW x u∧vR r v
def rO:List Nd→By→Prop
 | []=>fun _=>False
 |x::r=>fun w=>GW x w∨rO r w
def pz:List Nd→By→Prop
 | []=>fun w=>w=[]
 |x::_=>fun w=>GW x w
end
section
variable {F ss:List b6}{fin:Nat→Prop}{n to i st:Nat}{x:b6}{w:By}{todo:List Nat}
inductive Acc (F:List b6) (fin:Nat→Prop):Nat→Nat→By→Prop where
 |done {q:Nat}:fin q→Acc F fin 0 q []
 |eps {n q q':Nat}{x:b6}{w:By}:F[q]? =some x→x.kind=0→q'∈x.to→Acc F fin n q' w→Acc F fin (n+1) q w
 |eat {n q q':Nat}{x:b6}{c:UInt8}{w:By}:F[q]? =some x→x.kind=1→x.set.testBit c.toNat=true→q'∈x.to→Acc F fin n q' w→Acc F fin (n+1) q (c::w)
def kR (F:List b6) (fin:Nat→Prop):Prop:=∀q,fin q→∃x,F[q]? =some x∧x.kind=2
theorem Acc.fork (hf:kR F fin){q:Nat}(hx:F[q]? =some x) (hk:x.kind=0) (h:Acc F fin n q w):∃m q',m<n∧q'∈x.to∧Acc F fin m q' w:=by
 cases h with
 |done hq=>obtain⟨y,hy,hk2⟩:=hf _ hq;rw[hx] at hy;cases hy;omega
 |eps hy _ hq h=>rw[hx] at hy;cases hy;exact⟨_,_,Nat.lt_succ_self _,hq,h⟩
 |eat hy hk1 _ _ _=>rw[hx] at hy;cases hy;omega
theorem Acc.L9 (hf:kR F fin){q:Nat}(hx:F[q]? =some x) (hk:x.kind=1) (h:Acc F fin n q w):∃m q' c w',m<n∧w=c::w'∧x.set.testBit c.toNat=true∧q'∈x.to∧Acc F fin m q' w':=by
 cases h with
 |done hq=>obtain⟨y,hy,hk2⟩:=hf _ hq;rw[hx] at hy;cases hy;omega
 |eps hy hk1 _ _=>rw[hx] at hy;cases hy;omega
 |eat hy _ hc hq h=>rw[hx] at hy;cases hy;exact⟨_,_,_,_,Nat.lt_succ_self _,rfl,hc,hq,h⟩
def Splits (F:List b6) (fin:Nat→Prop) (b to:Nat) (A:By→Prop):Prop :=
 (∀n w,Acc F fin n b w→∃u v m,w=u++v∧A u∧m≤n∧Acc F fin m to v)∧(∀u v m,A u→Acc F fin m to v→∃n,Acc F fin n b (u++v))
def EE (F ss':List b6) (lo:Nat):Prop:=∀i,lo≤i→i<ss'.length→F[i]? =ss'[i]?
theorem oD:Splits F fin to to (fun w=>w=[]) :=
 ⟨fun n w h=>⟨[],w,n,rfl,rfl,Nat.le_refl _,h⟩,fun u v m hu h=>⟨m,by subst hu;exact h⟩⟩
theorem zW (hf:kR F fin){first again:Nat}{A:By→Prop}(hx:F[again]? =some x) (hk:x.kind=0) (ht:x.to=[first,to]) (h:Splits F fin first again A):Splits F fin again to (xL A):=by
 constructor
 · intro n
   induction n using Nat.strongRecOn with
   |_ n ih =>
    intro w hw;obtain⟨m,q',hm,hq,hw'⟩:=hw.fork hf hx hk;rw[ht] at hq
    rcases List.mem_cons.1 hq with rfl|hq
    · obtain⟨u1,v1,m1,rfl,hu1,hm1,hv1⟩:=h.1 _ _ hw';obtain⟨u2,v2,m2,rfl,hu2,hm2,hv2⟩:=ih m1 (by omega) _ hv1;exact⟨u1++u2,v2,m2,by simp,.cons hu1 hu2,by omega,hv2⟩
    · have:q'=to:=by simpa using hq
      subst this;exact⟨[],w,m,rfl,.nil,by omega,hw'⟩
 · intro u v m hu hv
   induction hu with
   |nil=>exact⟨m+1,.eps hx hk (by rw[ht];simp) hv⟩
   |cons hA _ ih =>
    obtain⟨n,hn⟩:=ih;obtain⟨n',hn'⟩:=h.2 _ _ _ hA hn;exact⟨n'+1,.eps (q':=first) hx hk (by rw[ht];simp) (by rw[List.append_assoc];exact hn')⟩
theorem tP {b c:Nat}{A B:By→Prop}(h1:Splits F fin b c A) (h2:Splits F fin c to B):Splits F fin b to (fun w=>∃u v,w=u++v∧A u∧B v):=by
 constructor
 · intro n w hw;obtain⟨u1,v1,m1,rfl,hu1,hm1,hv1⟩:=h1.1 _ _ hw;obtain⟨u2,v2,m2,rfl,hu2,hm2,hv2⟩:=h2.1 _ _ hv1;exact⟨u1++u2,v2,m2,by simp,⟨_,_,rfl,hu1,hu2⟩,by omega,hv2⟩
 · rintro u v m ⟨u1,u2,rfl,hA,hB⟩ hv;obtain⟨n,hn⟩:=h2.2 _ _ _ hB hv;obtain⟨n',hn'⟩:=h1.2 _ _ _ hA hn;exact⟨n',by rw[List.append_assoc];exact hn'⟩
end
mutual
theorem lC {F:List b6}{fin:Nat→Prop}(hf:kR F fin):∀(x:Nd) (ss:List b6) (to:Nat),EE F (lay x ss to).1 ss.length→Splits F fin (lay x ss to).2 to (GW x)
 |.mk k s kids,ss,to,hs=>by
  rw[lay] at hs ⊢;unfold GW
  by_cases h1:k=1
  · simp only[if_pos h1] at hs ⊢;have hx:F[ss.length]? =some ⟨1,s,[to],0⟩:=by rw[hs _ (Nat.le_refl _) (by simp)];simp
    constructor
    · intro n w hw;obtain⟨m,q',c,w',hm,rfl,hc,hq,hw'⟩:=hw.L9 hf hx rfl;have:q'=to:=by simpa using hq
      subst this;exact⟨[c],w',m,rfl,⟨c,rfl,hc⟩,by omega,hw'⟩
    · rintro u v m ⟨c,rfl,hc⟩ hv;exact⟨m+1,.eat hx rfl hc (by simp) hv⟩
  · simp only[if_neg h1] at hs ⊢
    by_cases h2:k=2
    · simp only[if_pos h2] at hs ⊢;exact og hf kids ss to hs
    · simp only[if_neg h2] at hs ⊢
      by_cases h3:k=3
      · simp only[if_pos h3] at hs ⊢;have hl:=fA kids ss to;have hx:F[(bH kids ss to).1.length]? =some ⟨0,0,(bH kids ss to).2,0⟩:=by rw[hs _ (by omega) (by simp)];simp
        have ih:=oh hf kids ss to (fun i h1 h2=>by rw[hs i h1 (by simp;omega),List.getElem?_append_left h2]);constructor
        · intro n w hw;obtain⟨m,q',hm,hq,hw'⟩:=hw.fork hf hx rfl;obtain⟨u,v,m',hu⟩:=ih.1 _ _ _ hq hw';exact⟨u,v,m',hu.1,hu.2.1,by omega,hu.2.2.2⟩
        · intro u v m hu hv;obtain⟨n,q',hq,hn⟩:=ih.2 _ _ _ hu hv;exact⟨n+1,.eps hx rfl hq hn⟩
      · simp only[if_neg h3] at hs ⊢
        by_cases h6:k=6
        · simp only[if_pos h6] at hs ⊢;have hl:=ga kids ss to;have hx:F[(cC kids ss to).1.length]? =some ⟨0,0,[(cC kids ss to).2,to],0⟩:=by rw[hs _ (by omega) (by simp)];simp
          have ih:=oe hf kids ss to (fun i h1 h2=>by rw[hs i h1 (by simp;omega),List.getElem?_append_left h2]);constructor
          · intro n w hw;obtain⟨m,q',hm,hq,hw'⟩:=hw.fork hf hx rfl
            rcases List.mem_cons.1 hq with rfl|hq
            · obtain⟨u,v,m',h1,h2,h3,h4⟩:=ih.1 _ _ hw';exact⟨u,v,m',h1,.inr h2,by omega,h4⟩
            · have:q'=to:=by simpa using hq
              subst this;exact⟨[],w,m,rfl,.inl rfl,by omega,hw'⟩
          · rintro u v m (rfl|hu) hv
            · exact⟨m+1,.eps hx rfl (by simp) hv⟩
            · obtain⟨n,hn⟩:=ih.2 _ _ _ hu hv;exact⟨n+1,.eps hx rfl (by simp) hn⟩
        · simp only[if_neg h6] at hs ⊢
          by_cases h45:k=4∨k=5
          · simp only[if_pos h45] at hs ⊢;have hl:=ga kids (ss++[⟨0,0,[],0⟩]) ss.length;simp only[List.length_append,List.length_singleton] at hl
            have hx:F[ss.length]? =some ⟨0,0,[(cC kids (ss++[⟨0,0,[],0⟩]) ss.length).2,to],0⟩:=by
             rw[hs _ (Nat.le_refl _) (by simp;omega)];simp[List.getElem?_set];omega
            have ih:=oe hf kids (ss++[⟨0,0,[],0⟩]) ss.length (fun i h1 h2=>by
             simp only[List.length_append,List.length_singleton] at h1;rw[hs i (by omega) (by simp;omega),List.getElem?_set_ne (by omega)])
            have hst:=zW hf hx rfl rfl ih
            by_cases h4:k=4
            · have h5:¬k=5:=by omega
              simp only[if_pos h4,if_neg h5];exact hst
            · have h5:k=5:=by omega
              simp only[if_neg h4,if_pos h5];exact tP ih hst
          · simp only[if_neg h45] at hs ⊢;have h4:¬k=4:=fun e=>h45 (.inl e)
            have h5:¬k=5:=fun e=>h45 (.inr e)
            simp only[if_neg h4,if_neg h5];exact oD
theorem og {F:List b6}{fin:Nat→Prop}(hf:kR F fin):∀(l:List Nd) (ss:List b6) (to:Nat),EE F (bR l ss to).1 ss.length→Splits F fin (bR l ss to).2 to (vR l)
 | [],ss,to,hs=>by
  rw[bR];unfold vR;exact oD
 |x::r,ss,to,hs=>by
  rw[bR] at hs ⊢;unfold vR;have hl:=je r ss to;have hl2:=fP x (bR r ss to).1 (bR r ss to).2;have h2:=og hf r ss to (fun i h1 h2=>by rw[hs i h1 (by omega),lD x _ _ i h2]);have h1:=lC hf x (bR r ss to).1 (bR r ss to).2 (fun i h1 h2=>hs i (by omega) h2);exact tP h1 h2
theorem oh {F:List b6}{fin:Nat→Prop}(hf:kR F fin):∀(l:List Nd) (ss:List b6) (to:Nat),EE F (bH l ss to).1 ss.length →
 (∀n q w,q∈(bH l ss to).2→Acc F fin n q w→∃u v m,w=u++v∧rO l u∧m≤n∧Acc F fin m to v)∧(∀u v m,rO l u→Acc F fin m to v→∃n q,q∈(bH l ss to).2∧Acc F fin n q (u++v))
 | [],ss,to,hs=>by
  rw[bH];unfold rO;exact⟨fun n q w h=>absurd h List.not_mem_nil,fun u v m h=>False.elim h⟩
 |x::r,ss,to,hs=>by
  rw[bH] at hs ⊢;unfold rO;have hl:=fP x ss to;have hl2:=fA r (lay x ss to).1 to;have h1:=lC hf x ss to (fun i h1 h2=>by rw[hs i h1 (by simp only;omega)];exact oO r _ _ i h2);have h2:=oh hf r (lay x ss to).1 to (fun i h1 h2=>hs i (by omega) h2);constructor
  · intro n q w hq hw
    rcases List.mem_cons.1 hq with rfl|hq
    · obtain⟨u,v,m,a,b,c,d⟩:=h1.1 _ _ hw;exact⟨u,v,m,a,.inl b,c,d⟩
    · obtain⟨u,v,m,a,b,c,d⟩:=h2.1 _ _ _ hq hw;exact⟨u,v,m,a,.inr b,c,d⟩
  · rintro u v m (hu|hu) hv
    · obtain⟨n,hn⟩:=h1.2 _ _ _ hu hv;exact⟨n,_,List.mem_cons_self,hn⟩
    · obtain⟨n,q,hq,hn⟩:=h2.2 _ _ _ hu hv;exact⟨n,q,List.mem_cons_of_mem _ hq,hn⟩
theorem oe {F:List b6}{fin:Nat→Prop}(hf:kR F fin):∀(l:List Nd) (ss:List b6) (to:Nat),EE F (cC l ss to).1 ss.length→Splits F fin (cC l ss to).2 to (pz l)
 | [],ss,to,hs=>by
  rw[cC];unfold pz;exact oD
 |x::r,ss,to,hs=>by
  rw[cC] at hs ⊢;unfold pz;exact lC hf x ss to hs
end
section
variable {F ss:List b6}{fin:Nat→Prop}{n to i st:Nat}{x:b6}{w:By}{todo:List Nat}
inductive GR (ss:List b6):Nat→Nat→Prop where
 |refl (i:Nat):GR ss i i
 |step {i j k:Nat}{x:b6}:ss[i]? =some x→x.kind=0→j∈x.to→GR ss j k→GR ss i k
theorem GR.snoc {j k:Nat}(h:GR ss i j) (hx:ss[j]? =some x) (hk:x.kind=0) (ht:k∈x.to):GR ss i k:=by
 induction h with
 |refl=>exact .step hx hk ht (.refl _)
 |step a b c _ ih=>exact .step a b c (ih hx)
structure GS (ss:List b6) (T todo:List Nat) (seen:List Bool):Prop where
 len:seen.length=ss.length
 inn:∀j∈todo,j<ss.length
 sound:∀i,(seen[i]? =some true∨i∈todo)→∃t∈T,GR ss t i
 cl:∀(i:Nat) (x:b6),seen[i]? =some true→ss[i]? =some x→x.kind=0→∀j∈x.to,seen[j]? =some true∨j∈todo
 all:∀t∈T,seen[t]? =some true∨t∈todo
theorem Cb {l:List Nat}(h:l.getLast? =some i):l=l.dropLast++[i]:=by
 obtain⟨h0,rfl⟩:=List.getLast?_eq_some_iff.1 h;simp
theorem rF {ss:List b6}{T:List Nat}(hg:Good ss):∀(n:Nat) (todo:List Nat) (seen:List Bool),todo.length+rY ss seen≤n→GS ss T todo seen→GS ss T [] (iH ss n todo seen)
 | 0,todo,seen,hn,k=>by
  have:todo=[]:=List.length_eq_zero_iff.1 (by omega);subst this;exact k
 |n+1,todo,seen,hn,k=>by
  unfold iH;split
  · rename_i h;have:todo=[]:=List.getLast?_eq_none_iff.1 h;subst this;exact k
  · rename_i i h;have hsp:=Cb h;have hlen:todo.length=todo.dropLast.length+1:=by rw[hsp];simp
    have hi:i∈todo:=by rw[hsp];simp
    have hmem:∀j,j∈todo→j∈todo.dropLast∨j=i:=fun j hj=>by rw[hsp] at hj;simpa using hj
    have hsub:∀j,j∈todo.dropLast→j∈todo:=fun j hj=>by rw[hsp];simp[hj]
    split
    · rename_i hs;refine rF hg n _ _ (by omega) ⟨k.len,fun j hj=>k.inn j (hsub j hj),fun j hj=>k.sound j (hj.imp id (hsub j)),fun j x a b c d e=>?_,fun t ht=>?_⟩
      · rcases k.cl j x a b c d e with h1|h1
        · exact .inl h1
        · rcases hmem d h1 with h2|rfl
          · exact .inr h2
          · exact .inl hs
      · rcases k.all t ht with h1|h1
        · exact .inl h1
        · rcases hmem t h1 with h2|rfl
          · exact .inr h2
          · exact .inl hs
    · rename_i hs;have hil:=k.inn i hi;obtain⟨x,hx⟩:∃x,ss[i]? =some x:=⟨_,List.getElem?_eq_getElem hil⟩
      have hf:seen[i]? =some false:=by
       obtain⟨b,hb⟩:∃b,seen[i]? =some b:=⟨_,List.getElem?_eq_getElem (by rw[k.len];exact hil)⟩
       cases b
       · exact hb
       · exact absurd hb hs
      have hp:=yq ss seen i x hx hf;have hself:(seen.set i true)[i]? =some true:=by rw[List.getElem?_set_self (by rw[k.len];exact hil)]
      have hset:∀j,seen[j]? =some true→(seen.set i true)[j]? =some true:=fun j hj=>by
       by_cases e:i=j
       · subst e;exact hself
       · rw[List.getElem?_set_ne e];exact hj
      have hget:∀j,(seen.set i true)[j]? =some true→j=i∨seen[j]? =some true:=fun j hj=>by
       by_cases e:i=j
       · exact .inl e.symm
       · rw[List.getElem?_set_ne e] at hj;exact .inr hj
      rw[hx];simp only;obtain⟨t0,Jx,he0⟩:=k.sound i (.inr hi);have hxm:x∈ss:=List.mem_of_getElem? hx;generalize hnew:(if x.kind=0 then todo.dropLast++x.to else todo.dropLast)=new
      have hin:∀j,j∈new→j∈todo.dropLast∨(x.kind=0∧j∈x.to):=fun j hj=>by
       subst hnew;split at hj
       · rename_i hk
         rcases List.mem_append.1 hj with h1|h1
         · exact .inl h1
         · exact .inr ⟨hk,h1⟩
       · exact .inl hj
      have hold:∀j,j∈todo.dropLast→j∈new:=fun j hj=>by
       subst hnew;split
       · exact List.mem_append_left _ hj
       · exact hj
      have hbig:new.length≤todo.dropLast.length+x.to.length:=by
       subst hnew;split<;>simp
      refine rF hg n _ _ (by omega) ⟨by rw[List.length_set];exact k.len,fun j hj=>?_,fun j hj=>?_,fun j y a b c d e=>?_,fun t ht=>?_⟩
      · rcases hin j hj with h1|⟨_,h1⟩
        · exact k.inn j (hsub j h1)
        · exact hg x hxm j h1
      · rcases hj with h1|h1
        · rcases hget j h1 with rfl|h2
          · exact⟨t0,Jx,he0⟩
          · exact k.sound j (.inl h2)
        · rcases hin j h1 with h2|⟨hk,h2⟩
          · exact k.sound j (.inr (hsub j h2))
          · exact⟨t0,Jx,he0.snoc hx hk h2⟩
      · rcases hget j a with rfl|a
        · rw[hx] at b;cases b;refine .inr ?_;rw[if_pos c] at hnew;subst hnew;exact List.mem_append_right _ e
        · rcases k.cl j y a b c d e with h1|h1
          · exact .inl (hset d h1)
          · rcases hmem d h1 with h2|rfl
            · exact .inr (hold d h2)
            · exact .inl hself
      · rcases k.all t ht with h1|h1
        · exact .inl (hset t h1)
        · rcases hmem t h1 with h2|rfl
          · exact .inr (hold t h2)
          · exact .inl hself
theorem oY (hg:Good ss) (ht:∀j∈todo,j<ss.length) (j:Nat):j∈closed ss todo↔∃x,ss[j]? =some x∧x.kind≠0∧∃t∈todo,GR ss t j:=by
 unfold closed;split
 · rename_i h;have:todo=[]:=List.length_eq_zero_iff.1 h;subst this;simp
 · have h0:∀i:Nat,(List.replicate ss.length false)[i]? ≠some true:=fun i hi=>by rw[List.getElem?_replicate] at hi;split at hi<;>cases hi
   have hi0:GS ss todo todo (List.replicate ss.length false):=⟨by simp,ht,fun i hi=>hi.elim (fun hi=>absurd hi (h0 i)) fun hi=>⟨i,hi,.refl i⟩,fun i x hi=>absurd hi (h0 i),fun t h=>.inr h⟩
   have hi:=rF hg (todo.length+rY ss (List.replicate ss.length false)) todo _ (Nat.le_refl _) hi0;generalize iH ss (todo.length+rY ss (List.replicate ss.length false)) todo (List.replicate ss.length false)=out at hi;simp only[List.mem_filter,List.mem_range,Bool.and_eq_true,bne_iff_ne,ne_eq];constructor
   · rintro⟨hj,h1,h2⟩;obtain⟨x,hx⟩:∃x,ss[j]? =some x:=⟨_,List.getElem?_eq_getElem hj⟩
     rw[hx] at h2;have h1:out[j]? =some true:=by simpa using h1
     exact⟨x,hx,by simpa using h2,hi.sound j (.inl h1)⟩
   · rintro⟨x,hx,hk,t,ht',he⟩
     have key:∀a b,GR ss a b→out[a]? =some true→out[b]? =some true:=by
      intro a b he
      induction he with
      |refl=>exact id
      |step hy hk hm _ ih =>
       intro ha;refine ih ?_
       rcases hi.cl _ _ ha hy hk _ hm with h1|h1
       · exact h1
       · cases h1
     have h1:=key _ _ he (by
      rcases hi.all t ht' with h1|h1
      · exact h1
      · cases h1)
     refine⟨(List.getElem?_eq_some_iff.1 hx).1,by rw[h1];rfl,by rw[hx];simpa using hk⟩
theorem Acc.through {j:Nat}(h:GR ss i j) (k:Acc ss fin n j w):∃m,Acc ss fin m i w:=by
 induction h with
 |refl=>exact⟨n,k⟩
 |step a b c _ ih=>obtain⟨m,hm⟩:=ih k;exact⟨m+1,.eps a b c hm⟩
theorem Acc.stop (hf:kR ss fin) (k:Acc ss fin n i w):∃j x,GR ss i j∧ss[j]? =some x∧x.kind≠0∧∃m,Acc ss fin m j w:=by
 induction k with
 |done hq=>obtain⟨x,hx,hk⟩:=hf _ hq;exact⟨_,x,.refl _,hx,by omega,_,.done hq⟩
 |eps a b c _ ih=>obtain⟨j,x,he,hr⟩:=ih;exact⟨j,x,.step a b c he,hr⟩
 |eat a b c d e _=>exact⟨_,_,.refl _,a,by omega,_,.eat a b c d e⟩
def wE (ss:List b6) (fin:Nat→Prop) (T:List Nat) (w:By):Prop:=∃j∈T,∃n,Acc ss fin n j w
theorem vj (hf:kR ss fin) (hg:Good ss) (ht:∀j∈todo,j<ss.length) (w:By):wE ss fin (closed ss todo) w↔wE ss fin todo w:=by
 constructor
 · rintro⟨j,hj,n,h⟩;obtain⟨x,hx,hk,t,ht',he⟩:=(oY hg ht j).1 hj;exact⟨t,ht',h.through he⟩
 · rintro⟨t,ht',n,h⟩;obtain⟨j,x,he,hx,hk,hm⟩:=h.stop hf;exact⟨j,(oY hg ht j).2 ⟨x,hx,hk,t,ht',he⟩,hm⟩
theorem nF (ss:List b6) (c:UInt8) (k:Nat):∀(l a:List Nat),k∈stepG ss c l a↔k∈a∨∃j∈l,∃x,ss[j]? =some x∧iT x c=true∧k∈x.to
 | [],a=>by simp[stepG]
 |j::r,a=>by
  rw[stepG,nF ss c k r];cases hx:ss[j]? with
  |none=>simp[hx]
  |some x =>
   simp only;cases ho:iT x c with
   |true=>simp[hx,ho,or_assoc]
   |false=>simp[hx,ho]
def Flat (ss:List b6) (T:List Nat):Prop:=∀j∈T,∃x,ss[j]? =some x∧x.kind≠0
theorem mX (hg:Good ss) (ht:∀j∈todo,j<ss.length):Flat ss (closed ss todo):=fun j hj=>by
 obtain⟨x,hx,hk,_⟩:=(oY hg ht j).1 hj;exact⟨x,hx,hk⟩
theorem zU (hg:Good ss) (c:UInt8) (T:List Nat):∀j∈stepG ss c T [],j<ss.length:=fun j hj=>by
 rcases (nF ss c j T []).1 hj with h|⟨i,_,x,hx,_,hm⟩
 · cases h
 · exact hg x (List.mem_of_getElem? hx) j hm
theorem tO (hg:Good ss) (c:UInt8) (T:List Nat):Flat ss (cR ss c T):=by
 unfold cR;split
 · intro j hj;cases hj
 · exact mX hg (zU hg c T)
theorem DF (hf:kR ss fin) (hg:Good ss){T:List Nat}(hT:Flat ss T) (c:UInt8) (w:By):wE ss fin (cR ss c T) w↔wE ss fin T (c::w):=by
 unfold cR;split
 · rename_i h0;constructor
   · rintro⟨j,hj,_⟩;cases hj
   · rintro⟨j,hj,_⟩;obtain⟨x,hx,_⟩:=hT j hj;have:=(List.getElem?_eq_some_iff.1 hx).1;omega
 · rw[vj hf hg (zU hg c T)];constructor
   · rintro⟨k,hk,n,h⟩
     rcases (nF ss c k T []).1 hk with h1|⟨j,hj,x,hx,ho,hm⟩
     · cases h1
     · simp only[iT,Bool.and_eq_true,decide_eq_true_eq] at ho;exact⟨j,hj,n+1,.eat hx ho.1 ho.2 hm h⟩
   · rintro⟨j,hj,n,h⟩;obtain⟨x,hx,hk⟩:=hT j hj;cases h with
     |eps hy hk0 _ _=>rw[hx] at hy;cases hy;exact absurd hk0 hk
     |eat hy hk1 hc hm h=>exact⟨_,(nF ss c _ T []).2 (.inr ⟨j,hj,_,hy,by simp[iT,hk1,hc],hm⟩),_,h⟩
def mh (ss:List b6) (r:Nat) (q:Nat):Prop:=∃x,ss[q]? =some x∧x.kind=2∧x.rule=r
theorem tB (ss:List b6) (r:Nat):kR ss (mh ss r):=fun _ ⟨x,hx,hk,_⟩=>⟨x,hx,hk⟩
theorem GK {r:Nat}{T:List Nat}(hT:Flat ss T):wE ss (mh ss r) T []↔∃j∈T,mh ss r j:=by
 constructor
 · rintro⟨j,hj,n,h⟩;obtain⟨x,hx,hk⟩:=hT j hj;cases h with
   |done hq=>exact⟨j,hj,hq⟩
   |eps hy hk0 _ _=>rw[hx] at hy;cases hy;exact absurd hk0 hk
 · rintro⟨j,hj,hq⟩;exact⟨j,hj,0,.done hq⟩
def nD (p:Nat→Prop) (r:Int):Prop:=(r= -1∧∀i,¬p i)∨∃n:Nat,r=n∧p n∧∀i,p i→n≤i
theorem vH (ss:List b6):∀(l:List Nat) (b:Int) (p:Nat→Prop),nD p b→nD (fun r=>p r∨∃j∈l,mh ss r j) (qI ss l b)
 | [],b,p,h=>by
  rw[qI]
  rcases h with ⟨rfl,h1⟩|⟨n,rfl,h1,h2⟩
  · exact .inl ⟨rfl,fun i h=>by rcases h with h|⟨_,h,_⟩;exact h1 i h;cases h⟩
  · exact .inr ⟨n,rfl,.inl h1,fun i h=>by rcases h with h|⟨_,h,_⟩;exact h2 i h;cases h⟩
 |j::l,b,p,h=>by
  rw[qI]
  have key:∀b',nD (fun r=>p r∨mh ss r j) b'→nD (fun r=>p r∨∃k∈j::l,mh ss r k) (qI ss l b'):=fun b' hb'=>by
   have:=vH ss l b' _ hb'
   have e:(fun r=>(p r∨mh ss r j)∨∃k∈l,mh ss r k)=(fun r=>p r∨∃k∈j::l,mh ss r k):=by
    funext r;simp[or_assoc]
   rwa [e] at this
  have no:(∀r,¬mh ss r j)→nD (fun r=>p r∨mh ss r j) b:=fun hno=>by
   have e:(fun r=>p r∨mh ss r j)=p:=by funext r;simp[hno r]
   rw[e];exact h
  cases hx:ss[j]? with
  |none=>exact key b (no fun r ⟨x,hx',_⟩=>by rw[hx] at hx';cases hx')
  |some x =>
   simp only
   by_cases hk:x.kind=2
   · have hfin:∀r,mh ss r j↔x.rule=r:=fun r=>⟨fun⟨y,hy,_,hr⟩=>by rw[hx] at hy;cases hy;exact hr,fun hr=>⟨x,hx,hk,hr⟩⟩
     by_cases hb:qH x b=true
     · rw[if_pos hb];refine key _ (.inr ⟨x.rule,rfl,.inr ((hfin _).2 rfl),fun i hi=>?_⟩);simp only[qH,decide_eq_true_eq] at hb
       rcases hi with hi|hi
       · rcases h with ⟨rfl,h1⟩|⟨n,rfl,h1,h2⟩
         · exact absurd hi (h1 i)
         · have:=h2 i hi;omega
       · rw[(hfin i).1 hi];exact Nat.le_refl _
     · rw[if_neg hb];refine key _ ?_;simp only[qH,decide_eq_true_eq] at hb
       rcases h with ⟨rfl,h1⟩|⟨n,rfl,h1,h2⟩
       · exact absurd ⟨hk,.inl (by decide)⟩ hb
       · refine .inr ⟨n,rfl,.inl h1,fun i hi=>?_⟩
         rcases hi with hi|hi
         · exact h2 i hi
         · have:=(hfin i).1 hi;omega
   · rw[if_neg (by simp[qH,hk])];exact key b (no fun r ⟨y,hy,hk2,_⟩=>by rw[hx] at hy;cases hy;exact hk hk2)
def jM (ss:List b6) (st:Nat) (w:By):List Nat:=w.foldl (fun T c=>cR ss c T) (cH ss st)
theorem DN (hg:Good ss) (hst:st<ss.length) (w:By):Flat ss (jM ss st w):=by
 have h0:Flat ss (cH ss st):=by
  unfold cH;split
  · intro j hj;cases hj
  · exact mX hg (fun j hj=>by simp at hj;omega)
 unfold jM;generalize cH ss st=T at h0
 induction w generalizing T with
 |nil=>exact h0
 |cons c w ih=>exact ih _ (tO hg c T)
theorem Fh (hf:kR ss fin) (hg:Good ss) (hst:st<ss.length) (w v:By):wE ss fin (jM ss st w) v↔∃n,Acc ss fin n st (w++v):=by
 have h0:Flat ss (cH ss st)∧∀v,wE ss fin (cH ss st) v↔∃n,Acc ss fin n st v:=by
  unfold cH;rw[if_neg (by omega)];have ht:∀j∈[st],j<ss.length:=fun j hj=>by simp at hj;omega
  refine⟨mX hg ht,fun v=>?_⟩;rw[vj hf hg ht];simp[wE]
 unfold jM
 have key:∀(w:By) (T:List Nat),Flat ss T→(wE ss fin (w.foldl (fun T c=>cR ss c T) T) v↔wE ss fin T (w++v)):=by
  intro w
  induction w with
  |nil=>intro T _;rfl
  |cons c w ih =>
   intro T hT;rw[List.foldl_cons,ih _ (tO hg c T),DF hf hg hT];rfl
 rw[key w _ h0.1,h0.2]
theorem wC (hg:Good ss) (hst:st<ss.length) (w:By):nD (fun r=>∃n,Acc ss (mh ss r) n st w) (bK ss (jM ss st w)):=by
 unfold bK;rw[if_neg (by omega)];have h:=vH ss (jM ss st w) (-1) (fun _=>False) (.inl ⟨rfl,fun _ h=>h⟩)
 have e:(fun r=>False∨∃j∈jM ss st w,mh ss r j)=(fun r=>∃n,Acc ss (mh ss r) n st w):=by
  funext r
  have:=Fh (tB ss r) hg hst w [];rw[GK (DN hg hst w),List.append_nil] at this;simpa using this
 rw[e] at h;exact h
def fq (ss:List b6):Nat:=(ss.map fun x=>x.to.length+1).sum
theorem gp (a b:List b6):fq (a++b)=fq a+fq b:=by simp[fq]
theorem zN:∀(ss:List b6) (i:Nat) (y x:b6),ss[i]? =some y→fq (ss.set i x)+y.to.length=fq ss+x.to.length
 | [],i,y,x,h=>by simp at h
 |z::r,0,y,x,h=>by simp at h;subst h;simp[fq];omega
 |z::r,i+1,y,x,h=>by have:=zN r i y x (by simpa using h);simp[fq] at *;omega
theorem Fo:∀(ss:List b6) (seen:List Bool),rY ss seen≤fq ss
 | [],_=>by simp[rY]
 |x::r,[]=>by simp[rY]
 |x::r,b::s=>by
  have:=Fo r s;simp only[rY,fq,List.map_cons,List.sum_cons] at *;split<;>omega
end
mutual
theorem tA:∀(x:Nd) (ss:List b6) (to:Nat),fq (lay x ss to).1+1≤fq ss+4*nO x
 |.mk k s kids,ss,to=>by
  rw[lay];simp only[nO];split
  · rw[gp];simp[fq];omega
  · split
    · have:=uI kids ss to;omega
    · split
      · have:=uK kids ss to;have hl:=mP kids ss to;simp only[gp];simp[fq] at *;omega
      · split
        · have:=uH kids ss to;simp only[gp];simp[fq] at *;omega
        · split
          · have:=uH kids (ss++[⟨0,0,[],0⟩]) ss.length;have h2:=zN (cC kids (ss++[⟨0,0,[],0⟩]) ss.length).1 ss.length ⟨0,0,[],0⟩ ⟨0,0,[(cC kids (ss++[⟨0,0,[],0⟩]) ss.length).2,to],0⟩ (by rw[oN kids _ _ _ (by simp)];simp);rw[gp] at this;simp[fq] at *;omega
          · simp;omega
theorem uI:∀(l:List Nd) (ss:List b6) (to:Nat),fq (bR l ss to).1≤fq ss+4*gr l
 | [],ss,to=>by simp[bR]
 |x::r,ss,to=>by
  rw[bR];have h1:=uI r ss to;have h2:=tA x (bR r ss to).1 (bR r ss to).2;simp only[gr];omega
theorem uK:∀(l:List Nd) (ss:List b6) (to:Nat),fq (bH l ss to).1+l.length≤fq ss+4*gr l
 | [],ss,to=>by simp[bH]
 |x::r,ss,to=>by
  rw[bH];have h1:=tA x ss to;have h2:=uK r (lay x ss to).1 to;simp only[gr,List.length_cons];omega
theorem uH:∀(l:List Nd) (ss:List b6) (to:Nat),fq (cC l ss to).1≤fq ss+4*gr l
 | [],ss,to=>by simp[cC]
 |x::r,ss,to=>by
  rw[cC];have h1:=tA x ss to;simp only[gr];omega
end
section
variable {F ss:List b6}{fin:Nat→Prop}{n to i st:Nat}{x:b6}{w:By}{todo:List Nat}
theorem Good.append {a b:List b6}(ha:Good a) (hb:∀x∈b,∀j∈x.to,j<(a++b).length):Good (a++b):=fun x hx j hj=>by
 rcases List.mem_append.1 hx with h|h
 · have:=ha x h j hj;simp;omega
 · exact hb x h j hj
theorem Good.set {a:List b6}(ha:Good a){i:Nat}{y:b6}(hy:∀j∈y.to,j<a.length):Good (a.set i y):=fun x hx j hj=>by
 rw[List.length_set]
 rcases List.mem_or_eq_of_mem_set hx with h|rfl
 · exact ha x h j hj
 · exact hy j hj
end
mutual
theorem qf:∀(x:Nd) (ss:List b6) (to:Nat),Good ss→to<ss.length→Good (lay x ss to).1∧(lay x ss to).2<(lay x ss to).1.length
 |.mk k s kids,ss,to,hg,ht=>by
  rw[lay];split
  · exact⟨hg.append (by intro x hx j hj;simp at hx;subst hx;simp at hj;subst hj;simp;omega),by simp⟩
  · split
    · exact se kids ss to hg ht
    · split
      · have h:=sn kids ss to hg ht;exact⟨h.1.append (by intro x hx j hj;simp at hx;subst hx;have:=h.2 j hj;simp;omega),by simp⟩
      · split
        · have h:=sd kids ss to hg ht;have hl:=ga kids ss to;exact⟨h.1.append (by intro x hx j hj;simp at hx;subst hx;simp at hj;simp;rcases hj with rfl|rfl<;>omega),by simp⟩
        · split
          · have h:=sd kids (ss++[⟨0,0,[],0⟩]) ss.length (hg.append (by intro x hx j hj;simp at hx;subst hx;cases hj)) (by simp);have hl:=ga kids (ss++[⟨0,0,[],0⟩]) ss.length;simp only[List.length_append,List.length_singleton] at hl;refine⟨h.1.set (by intro j hj;simp at hj;rcases hj with rfl|rfl;exact h.2;omega),?_⟩;simp only[List.length_set];split
            · exact h.2
            · omega
          · exact⟨hg,ht⟩
theorem se:∀(l:List Nd) (ss:List b6) (to:Nat),Good ss→to<ss.length→Good (bR l ss to).1∧(bR l ss to).2<(bR l ss to).1.length
 | [],ss,to,hg,ht=>by rw[bR];exact⟨hg,ht⟩
 |x::r,ss,to,hg,ht=>by
  rw[bR];have h1:=se r ss to hg ht;exact qf x _ _ h1.1 h1.2
theorem sn:∀(l:List Nd) (ss:List b6) (to:Nat),Good ss→to<ss.length→Good (bH l ss to).1∧∀j∈(bH l ss to).2,j<(bH l ss to).1.length
 | [],ss,to,hg,ht=>by rw[bH];exact⟨hg,fun j hj=>by cases hj⟩
 |x::r,ss,to,hg,ht=>by
  rw[bH];have h1:=qf x ss to hg ht;have hl:=fP x ss to;have h2:=sn r (lay x ss to).1 to h1.1 (by omega);have hl2:=fA r (lay x ss to).1 to;refine⟨h2.1,fun j hj=>?_⟩
  rcases List.mem_cons.1 hj with rfl|hj
  · simp only;omega
  · exact h2.2 j hj
theorem sd:∀(l:List Nd) (ss:List b6) (to:Nat),Good ss→to<ss.length→Good (cC l ss to).1∧(cC l ss to).2<(cC l ss to).1.length
 | [],ss,to,hg,ht=>by rw[cC];exact⟨hg,ht⟩
 |x::r,ss,to,hg,ht=>by rw[cC];exact qf x ss to hg ht
end
section
variable {F ss:List b6}{fin:Nat→Prop}{n to i st:Nat}{x:b6}{w:By}{todo:List Nat}
structure K4 (i:Nat) (rules:List By) (ss:List b6) (t:List Nat) (ss':List b6) (t':List Nat):Prop where
 pre:∀j,j<ss.length→ss'[j]? =ss[j]?
 len:ss.length≤ss'.length∧ss'.length≤ss.length+402*rules.length
 tot:fq ss'≤fq ss+1605*rules.length
 good:Good ss→(∀j∈t,j<ss.length)→Good ss'∧∀j∈t',j<ss'.length
 starts:∃t2,t'=t++t2∧t2.length=rules.length∧∀k s,rules[k]? =some s→(ck s).2=0∧∃a b,t2[k]? =some b∧ss.length≤a∧ss'[a]? =some ⟨2,0,[],i+k⟩∧∀F fin,EE F ss' ss.length→kR F fin→Splits F fin b a (GW (ck s).1)
theorem uz:∀(rules:List By) (i:Nat) (ss:List b6) (t:List Nat) (ss':List b6) (t':List Nat),kF i rules ss t= .inr (ss',t')→K4 i rules ss t ss' t'
 | [],i,ss,t,ss',t',h=>by
  rw[kF] at h;cases h;exact⟨fun _ _=>rfl,by simp,by simp,fun a b=>⟨a,b⟩,[],by simp,rfl,fun k s h=>by simp at h⟩
 |s::r,i,ss,t,ss',t',h=>by
  rw[kF] at h;split at h
  · cases h
  · rename_i he;have he:(ck s).2=0:=by simpa using he
    have hsm:=pW he;have ih:=uz r _ _ _ _ _ h;have hpre:=lD (ck s).1 (ss++[⟨2,0,[],i⟩]) ss.length;have hlen:=fP (ck s).1 (ss++[⟨2,0,[],i⟩]) ss.length;have htot:=tA (ck s).1 (ss++[⟨2,0,[],i⟩]) ss.length;simp only[List.length_append,List.length_singleton,gp] at hpre hlen htot;have hL:fq [(⟨2,0,[],i⟩:b6)]=1:=by simp[fq]
    generalize hly:lay (ck s).1 (ss++[⟨2,0,[],i⟩]) ss.length=ly at *;obtain⟨t2,uR,htl,hst⟩:=ih.starts;refine⟨fun j hj=>?_,⟨?_,?_⟩,?_,fun hg ht=>?_,ly.2::t2,by simp[uR],by simp[htl],fun k s' hk=>?_⟩
    · rw[ih.pre j (by omega),hpre j (by omega),List.getElem?_append_left hj]
    · have:=ih.len.1;omega
    · have:=ih.len.2;simp only[List.length_cons];omega
    · have:=ih.tot;simp only[List.length_cons];omega
    · have hgl:=qf (ck s).1 (ss++[⟨2,0,[],i⟩]) ss.length (hg.append (by intro x hx j hj;simp at hx;subst hx;cases hj)) (by simp);rw[hly] at hgl
      exact ih.good hgl.1 (fun j hj=>by
       rcases List.mem_append.1 hj with h1|h1
       · have:=ht j h1;omega
       · have:j=ly.2:=by simpa using h1
         rw[this];exact hgl.2)
    · cases k with
      |zero =>
       simp at hk;subst hk;refine⟨he,ss.length,ly.2,rfl,Nat.le_refl _,?_,fun F fin hS hF=>?_⟩
       · rw[ih.pre _ (by omega),hpre _ (by omega)];simp
       · have:=lC hF (ck s).1 (ss++[⟨2,0,[],i⟩]) ss.length (fun j h1 h2=>by
          rw[hly] at h2 ⊢;simp only[List.length_append,List.length_singleton] at h1;rw[hS j (by omega) (by have:=ih.len.1;omega)];exact ih.pre j h2)
         rwa [hly] at this
      |succ k =>
       obtain⟨h0,a,b,hb,hla,ha,hsp⟩:=hst k s' (by simpa using hk);exact⟨h0,a,b,by simpa using hb,by omega,by rw[ha];simp;omega,fun F fin hS hF=>hsp F fin (fun j h1 h2=>hS j (by omega) h2) hF⟩
structure Made (rules:List By) (ss:List b6) (st:Nat):Prop where
 good:Good ss
 stl:st<ss.length
 len:ss.length≤30000
 tot:fq ss≤110000
 num:rules.length≤64
 lng:∀r w,(∃n,Acc ss (mh ss r) n st w)↔∃s,rules[r]? =some s∧GW (ck s).1 w
theorem fY {rules:List By}(h:fj rules= .inr (ss,st)):Made rules ss st:=by
 unfold fj at h;split at h
 · cases h
 · rename_i hn;split at h
   · cases h
   · rename_i ss0 t hm;split at h
     · cases h
     · cases h;have k:=uz _ _ _ _ _ _ hm;obtain⟨t2,uR,htl,hst⟩:=k.starts;have ht:t=t2:=by simpa using uR
       subst ht;have hl:=k.len.2;have htot:=k.tot;have hgd:=k.good (by intro x hx;cases hx) (by intro j hj;cases hj);simp only[List.length_nil] at hl;have h0:fq ([]:List b6)=0:=rfl;have hF:(ss0++[⟨0,0,t,0⟩])[ss0.length]? =some ⟨0,0,t,0⟩:=by simp
       have hS:EE (ss0++[⟨0,0,t,0⟩]) ss0 ([]:List b6).length:=fun i _ h2=>List.getElem?_append_left h2
       refine⟨hgd.1.append (by intro x hx j hj;simp at hx;subst hx;have:=hgd.2 j hj;simp;omega),by simp,by simp;omega,?_,by omega,fun r w=>?_⟩
       · have hq:fq [(⟨0,0,t,0⟩:b6)]=t.length+1:=by simp[fq]
         rw[gp,hq];omega
       · constructor
         · rintro⟨n,hw⟩;obtain⟨m,q',_,hq,hw'⟩:=hw.fork (tB _ r) hF rfl;obtain⟨k',hk'⟩:=List.getElem?_of_mem hq;have hkl:k'<t.length:=(List.getElem?_eq_some_iff.1 hk').1;obtain⟨s,hs⟩:∃s,rules[k']? =some s:=⟨_,List.getElem?_eq_getElem (by omega)⟩
           obtain⟨_,a,b,hb,_,ha,hsp⟩:=hst k' s hs;rw[hk'] at hb;cases hb;obtain⟨u,v,m',rfl,hu,_,hv⟩:=(hsp _ _ hS (tB _ r)).1 _ _ hw';have ha':(ss0++[(⟨0,0,t,0⟩:b6)])[a]? =some ⟨2,0,[],0+k'⟩:=by rw[hS a (Nat.zero_le _) (List.getElem?_eq_some_iff.1 ha).1,ha]
           cases hv with
           |done hfin =>
            obtain⟨x,hx,_,hr⟩:=hfin;rw[ha'] at hx;cases hx;simp only[Nat.zero_add] at hr;subst hr;exact⟨s,hs,by rw[List.append_nil];exact hu⟩
           |eps hx hk _ _=>rw[ha'] at hx;cases hx;cases hk
           |eat hx hk _ _ _=>rw[ha'] at hx;cases hx;cases hk
         · rintro⟨s,hs,hw⟩;obtain⟨_,a,b,hb,_,ha,hsp⟩:=hst r s hs;have ha':(ss0++[(⟨0,0,t,0⟩:b6)])[a]? =some ⟨2,0,[],0+r⟩:=by rw[hS a (Nat.zero_le _) (List.getElem?_eq_some_iff.1 ha).1,ha]
           obtain⟨n,hn⟩:=(hsp _ _ hS (tB _ r)).2 w [] 0 hw (.done ⟨_,ha',rfl,by simp⟩);rw[List.append_nil] at hn;exact⟨n+1,.eps (q':=b) hF rfl (show b∈t from List.mem_of_getElem? hb) hn⟩
theorem xZ {f:Nat→Nat}:∀{a b:List Nat},a.Sublist b→(a.map f).sum≤(b.map f).sum
 |_,_,.slnil=>by simp
 |_,_,.cons _ h=>by have:=xZ (f:=f) h;simp;omega
 |_,_,.cons_cons _ h=>by have:=xZ (f:=f) h;simp;omega
theorem C6:∀ss:List b6,(ss.map fun x=>x.to.length).sum≤fq ss
 | []=>by simp[fq]
 |x::r=>by have:=C6 r;simp[fq] at *;omega
theorem DT (ss:List b6):((List.range ss.length).map fun i=>match ss[i]? with|some x=>x.to.length|none=>0).sum≤fq ss:=by
 have:((List.range ss.length).map fun i=>match ss[i]? with|some x=>x.to.length|none=>0)=ss.map fun x=>x.to.length:=by
  apply List.ext_getElem
  · simp
  · intro i h1 h2;simp at h2;simp[h2]
 rw[this];exact C6 ss
theorem wM (ss:List b6) (c:UInt8):∀(l a:List Nat),(stepG ss c l a).length≤a.length+(l.map fun i=>match ss[i]? with|some x=>x.to.length|none=>0).sum
 | [],a=>by simp[stepG]
 |j::r,a=>by
  rw[stepG];refine Nat.le_trans (wM ss c r _) ?_;simp only[List.map_cons,List.sum_cons];cases ss[j]? with
  |none=>simp
  |some x=>simp only;split<;>simp<;>omega
theorem DG (c:UInt8){now:List Nat}(h:now.Sublist (List.range ss.length)):(stepG ss c now []).length≤fq ss:=by
 have h1:=wM ss c now [];have h2:=xZ (f:=fun i=>match ss[i]? with|some x=>x.to.length|none=>0) h;have h3:=DT ss;simp only[List.length_nil] at h1;omega
def IsMatch (P:Nat→Nat→Prop) (n:Nat) (o:Int×Int):Prop :=
 (o=(0,-1)∧∀k r,k≤n→¬P k r)∨∃k r:Nat,o=((k:Int),(r:Int))∧k≤n∧P k r∧(∀k' r',k'≤n→P k' r'→k'≤k)∧∀r',P k r'→r≤r'
def ni (ac:Nat→Int):Nat→Nat→Int×Int→Int×Int
 | 0,k,b=>if 0≤ac k then ((k:Int),ac k) else b
 |n+1,k,b=>ni ac n (k+1) (if 0≤ac k then ((k:Int),ac k) else b)
def pE (P:Nat→Nat→Prop) (m:Nat) (o:Int×Int):Prop :=
 (o=(0,-1)∧∀k r,k<m→¬P k r)∨∃k r:Nat,o=((k:Int),(r:Int))∧k<m∧P k r∧(∀k' r',k'<m→P k' r'→k'≤k)∧∀r',P k r'→r≤r'
theorem pE.next {P:Nat→Nat→Prop}{m:Nat}{o:Int×Int}{a:Int}(h:pE P m o) (ha:nD (P m) a):pE P (m+1) (if 0≤a then ((m:Int),a) else o):=by
 rcases ha with ⟨rfl,h1⟩|⟨r,rfl,h1,h2⟩
 · rw[if_neg (by decide)]
   rcases h with ⟨rfl,h3⟩|⟨k,r,rfl,hk,hp,h3,h4⟩
   · exact .inl ⟨rfl,fun k r hk hp=>by
      by_cases e:k=m
      · subst e;exact h1 _ hp
      · exact h3 k r (by omega) hp⟩
   · exact .inr ⟨k,r,rfl,by omega,hp,fun k' r' hk' hp'=>by
      by_cases e:k'=m
      · subst e;exact absurd hp' (h1 _)
      · exact h3 k' r' (by omega) hp',h4⟩
 · rw[if_pos (by omega)];exact .inr ⟨m,r,rfl,by omega,h1,fun k' r' hk' _=>by omega,h2⟩
theorem vq {P:Nat→Nat→Prop}{ac:Nat→Int}:∀(n k:Nat) (b:Int×Int),pE P k b→(∀j,k≤j→j≤k+n→nD (P j) (ac j))→pE P (k+n+1) (ni ac n k b)
 | 0,k,b,h,ha=>by rw[ni];exact h.next (ha k (Nat.le_refl _) (by omega))
 |n+1,k,b,h,ha=>by
  rw[ni];have:=vq n (k+1) _ (h.next (ha k (Nat.le_refl _) (by omega))) (fun j h1 h2=>ha j (by omega) (by omega))
  rwa [show k+(n+1)+1=k+1+n+1 by omega]
theorem pE.match {P:Nat→Nat→Prop}{o:Int×Int}(h:pE P (n+1) o):IsMatch P n o:=by
 rcases h with ⟨rfl,h1⟩|⟨k,r,rfl,hk,hp,h1,h2⟩
 · exact .inl ⟨rfl,fun k r hk=>h1 k r (by omega)⟩
 · exact .inr ⟨k,r,rfl,by omega,hp,fun k' r' hk'=>h1 k' r' (by omega),h2⟩
theorem DE (ss:List b6) (c:UInt8):cR ss c []=[]:=by simp[cR,stepG,closed]
theorem rW (ss:List b6) (st:Nat) (a b:By):jM ss st (a++b)=b.foldl (fun T c=>cR ss c T) (jM ss st a):=by simp[jM,List.foldl_append]
theorem CS (ss:List b6):∀w:By,w.foldl (fun T c=>cR ss c T) ([]:List Nat)=[]
 | []=>rfl
 |c::w=>by rw[List.foldl_cons,DE,CS ss w]
theorem vp {ac:Nat→Int}:∀(n k:Nat) (b:Int×Int),(∀j,k≤j→j≤k+n→ac j<0)→ni ac n k b=b
 | 0,k,b,h=>by rw[ni,if_neg (by have:=h k (Nat.le_refl _) (by omega);omega)]
 |n+1,k,b,h=>by
  rw[ni,if_neg (by have:=h k (Nat.le_refl _) (by omega);omega)];exact vp n (k+1) b (fun j h1 h2=>h j (by omega) (by omega))
theorem AJ:∀(l a:By) (b:Int×Int),iZ ss l (jM ss st a) a.length b=ni (fun k=>bK ss (jM ss st ((a++l).take k))) l.length a.length b:=by
 have none_:∀(l a:By) (b:Int×Int),jM ss st a=[]→iZ ss l (jM ss st a) a.length b=ni (fun k=>bK ss (jM ss st ((a++l).take k))) l.length a.length b:=by
  intro l a b h;rw[uy (by rw[h];rfl),vp];intro j h1 h2;have:(a++l).take j=a++l.take (j-a.length):=by rw[List.take_append,List.take_of_length_le h1]
  rw[this,rW,h,CS];unfold bK;split
  · decide
  · simp[qI]
 intro l
 induction l with
 |nil =>
  intro a b
  by_cases h:jM ss st a=[]
  · exact none_ [] a b h
  · rw[iZ,if_neg (by simpa using h),List.length_nil,ni];simp
 |cons c r ih =>
  intro a b
  by_cases h:jM ss st a=[]
  · exact none_ (c::r) a b h
  · rw[iZ,if_neg (by simpa using h)];simp only[List.length_cons,ni];have h1:=ih (a++[c]) (if 0≤bK ss (jM ss st a) then ((a.length:Int),bK ss (jM ss st a)) else b);rw[rW] at h1;simp only[List.foldl_cons,List.foldl_nil,List.length_append,List.length_singleton,List.append_assoc,List.singleton_append] at h1;rw[h1];have e:(a++c::r).take a.length=a:=by simp
    rw[e]
theorem AI {rules:List By}(k:Made rules ss st) (l:By):IsMatch (fun n r=>∃s,rules[r]? =some s∧GW (ck s).1 (l.take n)) l.length (dR ss st l):=by
 have hst:=k.stl;unfold dR;rw[if_neg (by omega)];have h:=AJ (ss:=ss) (st:=st) l [] (0,-1);have e:jM ss st []=cH ss st:=rfl;rw[e] at h;simp only[List.length_nil,List.nil_append] at h;rw[h]
 have:=vq (P:=fun n r=>∃s,rules[r]? =some s∧GW (ck s).1 (l.take n)) (ac:=fun k=>bK ss (jM ss st (l.take k))) l.length 0 (0,-1) (.inl ⟨rfl,fun k r hk=>by omega⟩) (fun j _ _=>by
  have h1:=wC k.good k.stl (l.take j)
  have e:(fun r=>∃n,Acc ss (mh ss r) n st (l.take j))=(fun r=>∃s,rules[r]? =some s∧GW (ck s).1 (l.take j)):=by
   funext r;exact propext (k.lng r _)
  rw[e] at h1;exact h1)
 rw[Nat.zero_add] at this;exact this.match
end
end Go.Proofs.YtedocgkapmeceaaGreatDoor
namespace Go.Proofs.YtedocgkapmeceaaGreatDoor
open Go Go.Lw
set_option maxRecDepth 20000
def Jq (h:aD) (p:Value) (rules:List By):Prop:=∃(O:Nat→Prop) (nb:Nat) (v:Value) (ss:List b6) (st:Nat),p= .pointer (some ⟨nb,0,none⟩)∧cy h O nb v ss st∧fj rules= .inr (ss,st)
def Iy (rules:List By):Int:=match fj rules with|.inl e=>e|.inr _=>0
def yA (rules:List By) (s:By) (a:Int):Int×Int:=match fj rules with|.inl _=>(0,-1)|.inr (ss,st)=>B4 ss st s a
theorem D7 {h:aD}{lim:Nat}(hg:Sg h lim) (hlim:lim≤h.size){rv:Value}{rules:List By}(hr:bU mV h (fun _=>False) rv rules) (hrl:∀s∈rules,s.length≤1000000) :
 ai Tryz.prog 38 #[rv] h (cL fun r h'=>(∃p,r= .tuple #[p,.int .i64 (Iy rules)]∧((∃e,fj rules= .inl e∧p= .pointer none)∨Jq h' p rules))∧aF h h') :=
 (B5 hg hlim hr hrl).ret fun r h' k=>by
  obtain⟨k1,k2⟩:=k;refine⟨?_,k2⟩;unfold xN at k1;unfold Iy;cases hm:fj rules with
  |inl e=>rw[hm] at k1;exact⟨_,k1,.inl ⟨e,rfl,rfl⟩⟩
  |inr q =>
   obtain⟨ss,st⟩:=q;rw[hm] at k1;obtain⟨nb,v,h1,_,h3⟩:=k1;exact⟨_,h1,.inr ⟨_,nb,v,ss,st,rfl,h3,hm⟩⟩
theorem AM {rules:List By}{ss:List b6}{st:Nat}(k:Made rules ss st):ss.length≤1000000∧1+rY ss (List.replicate ss.length false)≤1000000∧∀c now,List.Sublist now (List.range ss.length)→(stepG ss c now []).length+rY ss (List.replicate ss.length false)≤1000000:=by
 have h1:=k.len;have h2:=k.tot;have h3:=Fo ss (List.replicate ss.length false);refine⟨by omega,by omega,fun c now hs=>?_⟩;have:=DG c hs;omega
theorem lits {h:aD}(l:List By) (n:Nat) (hn:l.length=n) (hm:n≤maxLen):bU mV (h.push (.cells (l.map fun s=>Value.string (bs s)).toArray 9)) (fun _=>False) (.slice (some ⟨h.size,0,none⟩) n n) l :=
 cK.read (h1:=fun _=>rfl) (jo (fun s=>.string (bs s)) h 9 l n hn hm h.size (Nat.le_refl _) rfl) (fun _ _ k=>k)
end Go.Proofs.YtedocgkapmeceaaGreatDoor
