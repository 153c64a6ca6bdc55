/- What the proof of the statement leans on (part 26). -/
import Derived.Lib.ConvBytes
import Derived.Lib.AtoiErrMem
import Derived.Laws.Runes
import Derived.Test.YtedocgkapmeceaaGreatDoorQy

namespace Go.Lw
open Go.RowKit
section
variable {P:Program}{ρ:Env}{h:aD}{dst:Option Nat}{ty:TypeId}{pos:String}{after:Array Edge}{guard:Option (Nat×Bool)}{X:List PanicEntry→aD→Prop}
theorem aj.zX {t e:TypeId}{x:Operand}{b o m sz:Nat}(hu:P.underlying t=some (.array m e)) (hs:cZ P e=some sz) (hx:bW ρ x=some (.pointer (some ⟨b,o,none⟩))) :
 aj P ⟨dst,.slice t x none none none,ty,pos,after,guard⟩ ρ h (.slice (cX (some ⟨b,o,none⟩) 0 sz m) (m-0) (m-0)):=by
 intro _ B a w hf _;simp[execOp,Instr.sliceAt,Instr.sliceBounds,Instr.sliceBound,run_underlying hu,hf.eval hx,run_sizeOf hs,cX,Instr.sureAddr];split<;>simp
end
end Go.Lw
namespace Go.Proofs.YtedocgkapmeceaaGreatDoor
open Go.Proofs.Tryz
open Go Go.Lw
set_option maxRecDepth 20000
section
variable {h:aD}
abbrev Mk:gG (UInt8×UInt8):=.record 2 (by decide) kH (fun _=>rfl) Fu
theorem I9 (k:ox h):bU Mk h (fun _=>False) (.slice (some ⟨1,0,none⟩) 6 6) ir :=
 ⟨_,6,6,rfl,rfl,Nat.le_refl _,by decide,fun i x hx=>⟨_,0,kH x,rfl,fun k=>k,fun j v hv=>by
  have:=k (i*2+j) v (gQ (enc:=kH) (fun _=>rfl) ir i x j v hx hv);rw[Nat.add_assoc];exact this,rfl⟩⟩
theorem yp {tb ib:Nat}{s:By}{i:Nat}(hb:bq h tb 9 [.string (bs s)]) (hi:bq h ib 3 [.int .i64 (i:Nat)]){c:UInt8}(hc:s[i]? =some c) (p:UInt8×UInt8) :
 ai Tryz.prog 105 #[.agg (kH p).toArray,ptr tb,ptr ib] h (cL fun r h'=>r= .bool (p.2 ==c)∧aF h h'):=by
 refine ai.of func105 rfl rfl ?_;refine xr func105 rfl ?_;refine xo rfl (aC.fe rfl) ?_;rintro _ h1 ⟨rfl,k1,e1,z1⟩;have k1:bq h1 h.size 167 (kH p):=k1;refine aQ 1 [0,1,2,3,4] rfl ?_;refine av rfl ?_;refine G.dB func105 H.mixed rfl (by kernel_rfl) ?_;refine RQ.au rfl rfl rfl rfl (aj.cM underlying167 H.Jt rfl rfl 1 rfl (by decide)) ?_;refine RQ.au rfl rfl rfl rfl (ah H.KY rfl (k1.cell (i:=1) rfl)) ?_;refine RQ.au rfl rfl rfl rfl (ah H.dO rfl ((hb.ax e1).cell (i:=0) rfl)) ?_;refine RQ.au rfl rfl rfl rfl (ah H.cG rfl ((hi.ax e1).cell (i:=0) rfl)) ?_;refine RQ.au rfl rfl rfl rfl (aj.cm underlying9 rfl rfl i rfl (eF hc)) ?_;refine RQ.au rfl rfl rfl rfl (aj.Gj rfl rfl) ?_;refine RQ.au rfl rfl rfl rfl (aj.assign rfl) ?_;refine b8 rfl ?_;refine xu [0,1,2,3,4] rfl ?_;refine G.ret func105 rfl rfl ?_;exact⟨_,rfl,by show Value.bool _=_;rw[Ia];rfl,e1⟩
theorem yM {gf:FuncId}{caps:List Value}(hf:H7 Tryz.prog gf){v:Value}{ts:List (UInt8×UInt8)}(hv:bU Mk h (fun _=>False) v ts) (p:UInt8×UInt8→Bool)
 (hp:∀t g,aF h g→ai Tryz.prog gf ([Value.agg (kH t).toArray]++caps).toArray g (cL fun r h'=>r= .bool (p t)∧aF g h')) :
 ai Tryz.prog 104 #[v,.func (.func gf) #[] caps.toArray] h (cL fun r h'=>(∃i:Int,r= .int .i64 i∧((i<0∧ts.find? p=none)∨∃(k:Nat) (t:UInt8×UInt8),i=k∧ts[k]? =some t∧ts.find? p=some t))∧aF h h'):=by
 obtain⟨va,vn,vc,rfl,hvs⟩:=hv.open;have hvl:ts.length=vn:=hvs.len;subst hvl;have hvm:=hvs.cap;have hvc:=hvs.le;simp only[maxLen] at hvm;refine ai.of func104 rfl rfl ?_;refine aW func104 1 [0,1,4] rfl ?_;refine av rfl ?_;refine br func104 1 rfl ?_;refine xp rfl (aj.aJ underlying183 rfl) ?_;refine aQ 1 [0,1,4,7,8] rfl ?_;refine G.block rfl rfl ?_;refine bE (σ:=Nat) (fun i=>[(0,.slice va ts.length vc),(1,.func (.func gf) #[] caps.toArray),(7,.int .i64 (ts.length:Nat)),(8,.int .i64 (i:Nat))]) (fun i h'=>aF h h'∧i≤ts.length∧∀a∈ts.take i,p a=false) (fun i=>ts.length-i) (0) rfl ⟨rfl,rfl,rfl,rfl,trivial⟩ ⟨Ext.refl _ _,Nat.zero_le _,by simp⟩ ?_;rintro i g ⟨eg,hi,hin⟩ ih;refine aW func104 1 [0,1,7,8,9] rfl ?_;refine av rfl ?_;refine aL rfl rfl (fun hlt=>?_) (fun hlt=>?_)
 · have hil:i<ts.length:=by omega
   have hvg:=hvs.mv (Mv.ax eg);obtain⟨b,o,t,ha,_,ht,hrow⟩:=hvg.wo hil;have hpt:=hp t g eg;refine aE rfl ?_;refine av rfl ?_;refine G.block rfl rfl ?_;refine aW func104 2 [0,1,5,7,8,9] rfl ?_;refine br func104 3 rfl ?_;refine xp rfl (aj.ay underlying183 H.wK rfl rfl i rfl ha (by omega)) ?_;refine xp rfl (aj.aG H.IJ H.wK rfl hrow (by first|rfl|(simp;done)|(simp;omega))) ?_;refine xo rfl (aC.Gq (vs:=[_]) rfl hf rfl (ai.bw (hpt))) ?_;rintro _ g1 ⟨rfl,e1⟩;refine xd [0,1,5,7,8,9,16] rfl ?_;refine aI rfl rfl (fun hb=>?_) (fun hb=>?_)
   · have hb:p t=true:=hb;refine aW func104 2 [0,1,4,5,7,8,9,16] rfl ?_;refine G.ret func104 rfl rfl ?_;exact⟨_,rfl,⟨i,rfl,.inr ⟨i,t,rfl,ht,C8 hin ht hb⟩⟩,eg.trans e1⟩
   · have hb:p t=false:=hb;refine aE rfl ?_;refine G.aN ?_;refine G.bT func104 rfl ?_;refine xp rfl (aj.bA rfl rfl ⟨by omega,by omega⟩) ?_;refine aQ 1 [0,1,5,7,8,9,16] rfl ?_;exact ih (i+1) _ _ ⟨rfl,rfl,rfl,rfl,trivial⟩ ⟨eg.trans e1,by omega,fun a ha=>by rw[List.take_add_one,ht,List.mem_append] at ha;exact ha.elim (hin a) (fun q=>by simp at q;rw[q];exact hb)⟩ (by omega)
 · obtain rfl:i=ts.length:=by omega
   refine bz rfl rfl ?_;refine aW func104 1 [0,1,4,7,8,9] rfl ?_;refine G.ret func104 rfl rfl ?_;exact⟨_,rfl,⟨-1,rfl,.inl ⟨by decide,mT hin rfl⟩⟩,eg⟩
theorem BV (c:UInt8):(cV c).length≤2:=by unfold cV;split<;>simp
theorem qW (s:By):(s.flatMap cV).length≤2*s.length:=by
 induction s with
 |nil=>simp
 |cons c s ih=>rw[List.flatMap_cons,List.length_append,List.length_cons];have:=BV c;omega
theorem An (hg:ox h) (s:By) (hs:s.length≤100000000):ai Tryz.prog 58 #[.string (bs s)] h (cL fun r h'=>r= .string (bs (uf s))∧aF h h'):=by
 have hbz:=bp s;have hql:=qW s;refine ai.of func58 rfl rfl ?_;refine xr func58 rfl ?_;refine xo rfl (aC.fe rfl) ?_;rintro _ h1 ⟨rfl,k1,e1,z1⟩;refine aQ 1 [0,1,2] rfl ?_;refine xr func58 rfl ?_;refine xo rfl (aC.aR H.EM) ?_;rintro _ h2 ⟨rfl,k2,e2,z2⟩;have k1:bq h2 h.size 9 [.string (bs s)]:=k1.ax e2;have kb:jY h2 h1.size 178 5 []:=vU k2;refine xd [0,1,2,3] rfl ?_;refine xr func58 rfl ?_;refine xo rfl (aq (vs:=[_,_]) func103 rfl H.C4 rfl (ai.bw (fO 34 kb (by simp)))) ?_;rintro _ h3 ⟨kb3,x3⟩;have k13:=k1.ext x3 (show ¬h1.size≤h.size by omega);have e13:aF h h3:=eP (e1.trans e2) x3 (by omega);rw[List.nil_append] at kb3;refine xd [0,1,2,3] rfl ?_;refine av rfl ?_;refine xr func58 rfl ?_;refine xp rfl (ah H.dO rfl (k13.cell (i:=0) rfl)) ?_;refine xp rfl (aj.bG underlying9 rfl) ?_;refine aQ 1 [0,1,2,3,8,9] rfl ?_;refine G.block rfl rfl ?_;refine bE (σ:=Nat) (fun i=>[(1,ptr h.size),(3,ptr h1.size),(8,.int .i64 ((bs s).size:Nat)),(9,.int .i64 (i:Nat))]) (fun i g=>i≤s.length∧jY g h1.size 178 5 (34::(s.take i).flatMap cV)∧aF h g∧bq g h.size 9 [.string (bs s)]∧h2.size≤g.size) (fun i=>s.length-i) (0) rfl ⟨rfl,rfl,rfl,rfl,trivial⟩ ⟨Nat.zero_le _,kb3,e13,k13,x3.size⟩ ?_;rintro i g ⟨hi,kg,eg,k1g,hz⟩ ih
 have htl:((s.take i).flatMap cV).length≤2*s.length:=by
  have:=qW (s.take i);rw[List.length_take] at this;omega
 refine aW func58 1 [1,3,8,9,10] rfl ?_;refine av rfl ?_;refine aL rfl rfl (fun hlt=>?_) (fun hlt=>?_)
 · have hil:i<s.length:=by omega
   obtain⟨c,hc⟩:∃c,s[i]? =some c:=⟨_,List.getElem?_eq_getElem hil⟩
   have htk:(s.take (i+1)).flatMap cV=(s.take i).flatMap cV++cV c:=by rw[List.take_add_one,hc];simp
   refine aE rfl ?_;refine av rfl ?_;refine G.block rfl rfl ?_;refine br func58 1 rfl ?_;refine xo rfl (aC.aR H.Lg) ?_;rintro _ g1 ⟨rfl,kn,en,zn⟩;refine RW.bZ rfl rfl rfl (aC.bF H.bY rfl rfl kn (by first|decide|exact of_decide_eq_true rfl|(simp;done)|(simp;omega)) rfl) ?_;rintro _ g2 ⟨rfl,kn2,xn,zn2⟩;have kn2:bq g2 g.size 3 [.int .i64 (i:Nat)]:=kn2;have en2:aF g g2:=aF.only en xn (Nat.le_refl _);have eg2:=eg.trans en2;have hix:=yM (h:=g2) (gf:=105) (caps:=[ptr h.size,ptr g.size]) ⟨_,func105,rfl,by kernel_rfl⟩ (I9 (hg.ax eg2)) (fun p=>p.2 ==c) (fun p g' e'=>yp ((k1g.ax en2).ax e') (kn2.ax e') hc p);refine xd [1,3,4,8,9,10] rfl ?_;refine xr func58 rfl ?_;refine xp rfl (aj.zX underlying168 H.wK rfl  ) ?_;refine xp rfl (iP (vs:=[_,_]) rfl) ?_;refine xo rfl (aq (vs:=[_,_]) func104 rfl H.Kv rfl (ai.bw (hix))) ?_;rintro _ g3 ⟨⟨j,rfl,hj⟩,e3⟩;have eg3:=eg2.trans e3;have kg3:=jY.ax kg (en2.trans e3);have z3:=(en2.trans e3).size;refine aQ 1 [1,3,4,5,8,9,10] rfl ?_;refine aW func58 2 [1,3,4,5,8,9,10,16] rfl ?_;refine aL rfl rfl (fun hj0=>?_) (fun hj0=>?_)
   · obtain⟨k,p,rfl,hkp,hfp⟩:=hj.resolve_left (fun q=>by omega);have hk6:k<6:=(List.getElem?_eq_some_iff.1 hkp).1;have hqc:cV c=[92,p.1]:=by unfold cV;rw[hfp]
     have hrow:=(hg.ax eg3) (k*2+0) _ (gQ (enc:=kH) (fun _=>rfl) ir k p 0 _ hkp rfl);refine G.bT func58 rfl ?_;refine bP 1 rfl rfl (aj.cM underlying168 H.wK rfl rfl k rfl hk6) ?_;refine xp rfl (aj.cM underlying167 H.Jt rfl rfl 0 rfl (by decide)) ?_;refine xp rfl (ah H.KY rfl hrow) ?_;refine xo rfl (aC.aZ (us:=[_,_]) underlying56 H.Lc rfl rfl (by decide) (by simp[Value.oneCell'])) ?_;rintro _ g4 ⟨rfl,hg4⟩;have e4:aF g3 g4:=by rw[hg4];exact Ext.push _ _ _
     have hby:bU .byte g4 (fun _=>False) (.slice (some ⟨g3.size,0,none⟩) 2 2) [92,p.1]:=by rw[hg4];exact CD.read (jo sX g3 _ [92,p.1] 2 rfl (by decide) 0 (Nat.zero_le _) rfl) (fun _ _ k=>k)
     have hw:=dU (bs [92,p.1]) (jY.ax kg3 e4) (by show (34::_).length+2≤_;rw[List.length_cons];omega);refine xp rfl (aj.xF underlying56 underlying5 underlying9 rfl hby) ?_;refine xo rfl (aq (vs:=[_,_]) func106 rfl H.Ay rfl (ai.bw (hw))) ?_;rintro _ g5 ⟨rfl,kb5,x5⟩;rw[gC] at kb5;have z4:=e4.size;refine xd [1,3,4,5,8,9,10,16] rfl ?_;refine G.aN ?_;refine G.bT func58 rfl ?_;refine xp rfl (aj.bA rfl rfl ⟨by omega,by omega⟩) ?_;refine aQ 1 [1,3,4,5,8,9,10,16] rfl ?_;exact ih (i+1) _ _ ⟨rfl,rfl,rfl,rfl,trivial⟩ ⟨hil,by rw[htk,hqc];exact kb5,eP (eg3.trans e4) x5 (by omega),((k1g.ax (en2.trans e3)).ax e4).ext x5 (show ¬h1.size≤h.size by omega),by have:=x5.size;omega⟩ (by omega)
   · have hfn:ir.find? (fun p=>p.2 ==c)=none:=by
      rcases hj with hj|⟨k,p,hj,_⟩
      · exact hj.2
      · omega
     have hqc:cV c=[c]:=by unfold cV;rw[hfn]
     have hw:=fO c kg3 (by rw[List.length_cons];omega);refine G.bT func58 rfl ?_;refine xp rfl (ah H.dO rfl ((k1g.ax (en2.trans e3)).cell (i:=0) rfl)) ?_;refine xp rfl (ah H.cG rfl ((kn2.ax e3).cell (i:=0) rfl)) ?_;refine xp rfl (aj.cm underlying9 rfl rfl i rfl (eF hc)) ?_;refine xo rfl (aq (vs:=[_,_]) func103 rfl H.C4 rfl (ai.bw (hw))) ?_;rintro _ g5 ⟨kb5,x5⟩;refine xd [1,3,4,5,8,9,10,16] rfl ?_;refine G.aN ?_;refine G.bT func58 rfl ?_;refine xp rfl (aj.bA rfl rfl ⟨by omega,by omega⟩) ?_;refine aQ 1 [1,3,4,5,8,9,10,16] rfl ?_;exact ih (i+1) _ _ ⟨rfl,rfl,rfl,rfl,trivial⟩ ⟨hil,by rw[htk,hqc];exact kb5,eP eg3 x5 (by omega),(k1g.ax (en2.trans e3)).ext x5 (show ¬h1.size≤h.size by omega),by have:=x5.size;omega⟩ (by omega)
 · have hie:i=s.length:=by omega
   rw[hie,List.take_length] at kg;have hw:=fO 34 kg (by rw[List.length_cons];omega);refine bz rfl rfl ?_;refine xr func58 rfl ?_;refine xo rfl (aq (vs:=[_,_]) func103 rfl H.C4 rfl (ai.bw (hw))) ?_;rintro _ g5 ⟨kb5,x5⟩;have hw2:=jW kb5 (by rw[List.length_append,List.length_cons,List.length_singleton];omega);refine xd [1,3,8,9,10] rfl ?_;refine xr func58 rfl ?_;refine xo rfl (aq (vs:=[_]) func107 rfl H.FK rfl (ai.bw (hw2))) ?_;rintro _ g6 ⟨rfl,x6⟩;refine aQ 1 [1,2,3,8,9,10] rfl ?_;refine G.ret func58 rfl rfl ?_;exact⟨_,rfl,rfl,eP (eP eg x5 (by omega)) x6 (by omega)⟩
end
end Go.Proofs.YtedocgkapmeceaaGreatDoor
namespace Go.Proofs.YtedocgkapmeceaaGreatDoor
open Go
def dw (s:By):Nat:=(s.takeWhile jC).length
theorem kJ (s:By):s.drop (dw s)=cS s:=by
 unfold dw cS
 induction s with
 |nil=>rfl
 |cons c r ih =>
  rw[List.takeWhile_cons,List.dropWhile_cons];split
  · simpa using ih
  · rfl
theorem A9 (s:By):(cS s).length+dw s=s.length:=by
 rw[←kJ,List.length_drop]
 have:dw s≤s.length:=by
  unfold dw
  induction s with
  |nil=>simp
  |cons c r ih=>rw[List.takeWhile_cons];split<;>simp;exact ih
 omega
theorem nL (s:By):eW s=decide (0<dw s):=by
 have:=A9 s;unfold eW;rw[decide_eq_decide];omega
def xy (s:By):By:=match s with
 |c::r=>if c=46∧0<dw r then r.drop (dw r) else c::r
 | []=>[]
def nY (s:By):By:=match s with
 |c::r=>if c=43∨c=45 then r else c::r
 | []=>[]
def yQ (s:By):By:=match s with
 |c::d::r=>if (c=101∨c=69)∧0<dw (nY (d::r)) then (nY (d::r)).drop (dw (nY (d::r))) else c::d::r
 |l=>l
def Fy (s:By):Bool:=decide (0<dw s) && (yQ (xy (s.drop (dw s)))).isEmpty
theorem C5 (s:By):decide (s=[])=s.isEmpty:=by cases s<;>rfl
theorem A1 {s:By}(ok:Bool) (h:ok=true):mo s ok=(yQ s).isEmpty:=by
 subst h
 match s with
 | []=>rfl
 | [c] =>
  unfold mo;simp only[true_and];split<;>rfl
 |c::d::r =>
  unfold mo yQ nY;simp only[true_and]
  by_cases hc:c=101∨c=69
  · rw[if_pos hc]
    by_cases hd:d=43∨d=45
    · simp only[if_pos hd,hc,true_and,nL,kJ,C5]
      by_cases h0:0<dw r
      · rw[if_pos h0,decide_eq_true h0,Bool.true_and]
      · rw[if_neg h0,decide_eq_false h0,Bool.false_and];simp
    · simp only[if_neg hd,hc,true_and,nL,kJ,C5]
      by_cases h0:0<dw (d::r)
      · rw[if_pos h0,decide_eq_true h0,Bool.true_and]
      · rw[if_neg h0,decide_eq_false h0,Bool.false_and];simp
  · rw[if_neg hc,if_neg (fun q=>hc q.1)];rfl
theorem A2 (s:By):mo s false=false:=by
 unfold mo;cases s with
 |nil=>rfl
 |cons c r=>simp only[Bool.false_eq_true,false_and,if_false]
theorem He (s:By):BX s=Fy s:=by
 unfold BX Fy;rw[kJ,←nL];cases hd:cS s with
 |nil =>
  simp only[xy,yQ,List.isEmpty_nil,Bool.and_true]
 |cons c r =>
  simp only[xy];cases hb:eW s with
  |false =>
   simp only[Bool.false_eq_true,false_and,if_false,Bool.false_and];exact A2 _
  |true =>
   simp only[true_and,Bool.true_and]
   by_cases hc:c=46
   · rw[if_pos hc,nL]
     by_cases h0:0<dw r
     · rw[if_pos ⟨hc,h0⟩,decide_eq_true h0,kJ];exact A1 _ rfl
     · rw[if_neg (fun q=>h0 q.2),decide_eq_false h0,A2];subst hc;cases r with
       |nil=>rfl
       |cons d r=>simp only[yQ];rw[if_neg (fun q=>by rcases q.1 with q|q<;>exact absurd q (by decide))];rfl
   · rw[if_neg hc,if_neg (fun q=>hc q.1)];exact A1 _ rfl
end Go.Proofs.YtedocgkapmeceaaGreatDoor
namespace Go.Proofs.YtedocgkapmeceaaGreatDoor
open Go.Proofs.Tryz
open Go Go.Lw
set_option maxRecDepth 20000
section
variable {h:aD}
def nR (l:By):List Value:=(List.range 256).map fun n=>.bool (decide (UInt8.ofNat n∈l))
@[simp] theorem Fe (l:By):(nR l).length=256:=by unfold nR;rw[List.length_map,List.length_range]
theorem CQ (l:By) (c:UInt8):(nR l)[c.toNat]? =some (.bool (decide (c∈l))):=by
 unfold nR;rw[List.getElem?_map,List.getElem?_range c.toNat_lt];simp
theorem Fc (l:By) (c:UInt8):(nR l).set c.toNat (.bool true)=nR (l++[c]):=by
 apply List.ext_getElem?
 intro n;rw[List.getElem?_set]
 by_cases h:c.toNat=n
 · subst h;rw[if_pos rfl,if_pos (by rw[Fe];exact c.toNat_lt),CQ];simp
 · rw[if_neg h];unfold nR;rw[List.getElem?_map,List.getElem?_map]
   by_cases hn:n<256
   · rw[List.getElem?_range hn];have:¬UInt8.ofNat n=c:=fun q=>h (by rw[←q];exact UInt8.toNat_ofNat_of_lt' hn)
     simp[this]
   · rw[List.getElem?_eq_none (by rw[List.length_range];omega)];rfl
theorem Ad (l:By):∀v∈nR l,v.oneCell'=true:=fun v hv=>by unfold nR at hv;simp at hv;obtain⟨_,_,rfl⟩:=hv;rfl
theorem DL (s:By) (hs:s.all (fun c=>decide (c.toNat<128))=true) (hsl:s.length≤1000000):ai Tryz.prog 170 #[.string (bs s)] h (cL fun r h'=>r=packed [.agg (nR s).toArray,.bool true]∧aF h h'):=by
 have hbz:=bp s;refine ai.of func170 rfl rfl ?_;refine xr func170 rfl ?_;refine xo rfl (aC.aR H.H9) ?_;rintro _ h1 ⟨rfl,k1,e1,z1⟩;have k1:bq h1 h.size 254 (nR []):=k1;refine aQ 1 [0,2,3] rfl ?_;refine av rfl ?_;refine aW func170 1 [0,2,3,4] rfl ?_;refine G.block rfl rfl ?_;refine bE (σ:=Nat) (fun i=>[(0,.string (bs s)),(2,ptr h.size),(4,.int .i64 (i:Nat))]) (fun i g=>i≤s.length∧bq g h.size 254 (nR (s.take i))∧aF h g) (fun i=>s.length-i) (0) rfl ⟨rfl,rfl,rfl,trivial⟩ ⟨Nat.zero_le _,k1,e1⟩ ?_;rintro i g ⟨hi,kg,eg⟩ ih;refine av rfl ?_;refine br func170 2 rfl ?_;refine xp rfl (aj.bG underlying9 rfl) ?_;refine aQ 1 [0,2,4,9] rfl ?_;refine aL rfl rfl (fun hlt=>?_) (fun hlt=>?_)
 · have hil:i<s.length:=by omega
   obtain⟨c,hc⟩:∃c,s[i]? =some c:=⟨_,List.getElem?_eq_getElem hil⟩
   have hc7:c.toNat<128:=of_decide_eq_true (List.all_eq_true.1 hs c (List.mem_of_getElem? hc));refine aE rfl ?_;refine av rfl ?_;refine G.block rfl rfl ?_;refine br func170 2 rfl ?_;refine xp rfl (aj.cm underlying9 rfl rfl i rfl (eF hc)) ?_;refine aQ 1 [0,2,4,5,9] rfl ?_;refine av rfl ?_;refine aW func170 2 [0,2,4,5,9,16] rfl ?_;refine aI rfl rfl (fun hc=>absurd hc (by simp;omega)) (fun _=>?_);refine aE rfl ?_;refine G.bT func170 rfl ?_;refine bP 1 rfl rfl (aj.cM underlying254 H.mg rfl rfl c.toNat rfl c.toNat_lt) ?_;refine RW.bZ rfl rfl rfl (aC.bF H.mg rfl rfl kg (by first|decide|exact of_decide_eq_true rfl|(simp;done)|(simp;omega)) rfl) ?_;rintro _ g2 ⟨rfl,k2,x2,z2⟩;have k2:bq g2 h.size 254 (nR (s.take (i+1))):=by rw[List.take_add_one,hc,show (some c).toList=[c] from rfl,←Fc];simpa using k2
   refine xd [0,2,4,5,9,16] rfl ?_;refine G.aN ?_;refine G.bT func170 rfl ?_;refine bP 1 rfl rfl (aj.bA rfl rfl ⟨by omega,by omega⟩) ?_;refine aQ 1 [0,2,4,5,9,16] rfl ?_;exact ih (i+1) _ _ ⟨rfl,rfl,rfl,trivial⟩ ⟨hil,k2,aF.only eg x2 (Nat.le_refl _)⟩ (by omega)
 · have hie:i=s.length:=by omega
   rw[hie,List.take_length] at kg;refine bz rfl rfl ?_;refine xr func170 rfl ?_;refine xp rfl (aj.aG H.II H.CN rfl kg.row (by first|rfl|(simp;done)|(simp;omega))) ?_;refine RW.bZ rfl rfl rfl (aC.aB H.CN rfl rfl kg (by first|rfl|(simp;done)|(simp;omega)) (by first|decide|exact of_decide_eq_true rfl|(simp;done)|(simp;omega)) (Ad s)) ?_;rintro _ g2 ⟨rfl,k2,x2,z2⟩;refine aQ 1 [0,2,3,4,9] rfl ?_;refine G.cN func170 rfl (.cons (bu.cB H.II H.CN rfl (k2.row) (by first|rfl|(simp;done)|(simp;omega))) (.cons (bu.tmp rfl) (.nil))) ?_;exact⟨_,rfl,by simp[over,List.drop_eq_nil_of_le],aF.only eg x2 (Nat.le_refl _)⟩
theorem sQ {b:Nat}{l:By}(k:bq h b 254 (nR l)) (c:UInt8):ai Tryz.prog 189 #[ptr b,.int .u8 (c.toNat:Nat)] h (cL fun r h'=>r= .bool (decide (c∈l))∧h'=h):=by
 refine ai.of func189 rfl rfl ?_;refine aW func189 1 [0,1,4] rfl ?_;refine br func189 3 rfl ?_;refine xp rfl (aj.cM underlying254 H.mg rfl rfl c.toNat rfl c.toNat_lt) ?_;refine xp rfl (ah H.vC rfl (by simpa using k.cell (CQ l c))) ?_;refine aQ 1 [0,1,4] rfl ?_;refine G.ret func189 rfl rfl ?_;exact⟨_,rfl,rfl,rfl⟩
theorem zM {b:Nat}{l:By}(k:bq h b 254 (nR l)) (s:By):ai Tryz.prog 171 #[.string (bs s),ptr b] h (cL fun r h'=>r= .string (bs (s.dropWhile fun c=>decide (c∈l)))∧h'=h):=by
 refine ai.of func171 rfl rfl ?_;refine aW func171 1 [0,1,4] rfl ?_;refine av rfl ?_;refine G.block rfl rfl ?_;refine bE (σ:=By) (fun t=>[(0,.string (bs t)),(1,ptr b)]) (fun t g=>g=h∧t.dropWhile (fun c=>decide (c∈l))=s.dropWhile fun c=>decide (c∈l)) (fun t=>t.length) (s) rfl ⟨rfl,rfl,trivial⟩ ⟨rfl,rfl⟩ ?_;rintro t g ⟨rfl,ht⟩ ih;have hbz:=bp t;rw[←ht];refine av rfl ?_;refine br func171 1 rfl ?_;refine xp rfl (aj.bG underlying9 rfl) ?_;refine aQ 1 [0,1,7] rfl ?_
 rcases t with _|⟨c,r⟩
 · refine aI rfl rfl (fun hc=>absurd hc (by decide)) (fun _=>?_);refine bz rfl rfl ?_;refine aW func171 2 [0,1,4,7] rfl ?_;refine G.ret func171 rfl rfl ?_;exact⟨_,rfl,rfl,rfl⟩
 · refine aI rfl rfl (fun _=>?_) (fun hc=>absurd hc (by rw[hbz];simp));refine aE rfl ?_;refine G.block rfl rfl ?_;refine av rfl ?_;refine br func171 2 rfl ?_;refine xp rfl (aj.cm underlying9 rfl rfl 0 rfl (eF (l:=c::r) (c:=c) rfl)) ?_;refine xo rfl (aq (vs:=[_,_]) func189 rfl H.J9 rfl (ai.bw (sQ k c))) ?_;rintro _ g1 ⟨rfl,hg1⟩;subst hg1;refine aQ 1 [0,1,7,12] rfl ?_;refine aI rfl rfl (fun hb=>?_) (fun hb=>?_)
   · have hb:¬c∈l:=by simpa using hb
     refine bz rfl rfl ?_;refine aW func171 2 [0,1,4,7,12] rfl ?_;refine G.ret func171 rfl rfl ?_;exact⟨_,rfl,by rw[List.dropWhile_cons,if_neg (by simpa using hb)];rfl,rfl⟩
   · have hb:c∈l:=by simpa using hb
     refine aE rfl ?_;refine G.bT func171 rfl ?_;refine bP 1 rfl rfl (aj.cP underlying9 rfl rfl 1 rfl (by rw[hbz];simp)) ?_;rw[fm,ht];refine aQ 1 [0,1,7,12] rfl ?_;refine G.aN ?_;exact ih r _ _ ⟨rfl,rfl,trivial⟩ ⟨rfl,by rw[←ht,List.dropWhile_cons,if_pos (by simpa using hb)]⟩ (by simp)
abbrev BL:By:=[48,49,50,51,52,53,54,55,56,57]
theorem HA (c:UInt8):decide (c∈BL)=jC c:=by
 have k:∀n:Fin 256,decide (UInt8.ofFin n∈BL)=jC (UInt8.ofFin n):=by unfold jC;decide +kernel
 exact k c.toFin
theorem BH (s:By):ai Tryz.prog 156 #[.string (bs s),.string (bs BL)] h (cL fun r h'=>r= .string (bs (cS s))∧aF h h'):=by
 have hd:s.dropWhile (fun c=>decide (c∈BL))=cS s:=by unfold cS;congr 1;funext c;exact HA c
 refine ai.of func156 rfl rfl ?_;refine aW func156 1 [0,1,4] rfl ?_;refine av rfl ?_;refine av rfl ?_;refine G.bD [(12,.bool (decide (s=[])))] [(0,_),(1,_),(4,_)] ⟨rfl,rfl,rfl,trivial⟩ func156 rfl ?_ ?_
 · refine bP 1 rfl rfl (aj.cI rfl rfl) ?_;refine aT 1 rfl ?_;refine aH (d:=9) rfl (fun g=>?_) (fun g=>?_)
   · have g:=of_decide_eq_true g;refine aT 3 rfl ?_;refine az rfl ?_;exact⟨rfl,aA rfl (by rw[decide_eq_true (dx g)]),rfl,rfl,rfl,trivial⟩
   · have g:=of_decide_eq_false g;refine bP 1 rfl rfl (aj.cI rfl rfl) ?_;refine aT 1 rfl ?_;refine az rfl ?_;exact⟨rfl,aA rfl (by rw[show decide (s=[])=false from decide_eq_false (fun q=>g (by rw[q];rfl))];rfl),rfl,rfl,rfl,trivial⟩
 · refine aL rfl rfl (fun h0=>?_) (fun h0=>?_)
   · refine aW func156 2 [0,1,4,12] rfl ?_;refine G.ret func156 rfl rfl ?_;exact⟨_,rfl,by rw[h0];rfl,Ext.refl _ _⟩
   · refine aE rfl ?_;refine av rfl ?_;refine av rfl ?_;refine G.bD [(21,.bool false)] [(0,_),(1,_),(4,_),(12,_)] ⟨rfl,rfl,rfl,rfl,trivial⟩ func156 rfl ?_ ?_
     · refine bP 1 rfl rfl (aj.bG underlying9 rfl) ?_;refine aT 2 rfl ?_;refine RW.cW (d:=17) (b':=false) rfl (rfl) ?_;refine aT 4 rfl ?_;refine az rfl ?_;exact⟨rfl,aA rfl (rfl),rfl,rfl,rfl,rfl,trivial⟩
     · refine aI rfl rfl (fun hc=>absurd hc (by simp)) (fun _=>?_);refine aE rfl ?_;refine av rfl ?_;refine br func156 1 rfl ?_;refine xo rfl (aq (vs:=[_]) func170 rfl H.Ke rfl (ai.bw (DL BL (by decide) (by decide)))) ?_;rintro _ h1 ⟨rfl,e1⟩;refine aT 3 rfl ?_;refine xo rfl (aC.aR H.H9) ?_;rintro _ h2 ⟨rfl,k2,e2,z2⟩;refine RW.bZ rfl rfl rfl (aC.aB H.CN rfl rfl k2 (by first|rfl|(simp;done)|(simp;omega)) (by first|decide|exact of_decide_eq_true rfl|(simp;done)|(simp;omega)) (Ad BL)) ?_;rintro _ h3 ⟨rfl,k3,x3,z3⟩;have k3:bq h3 h1.size 254 (nR BL):=k3;refine aQ 1 [0,1,4,5,6,12,21] rfl ?_;refine aW func156 1 [0,1,4,5,6,12,21,31] rfl ?_;refine aI rfl rfl (fun _=>?_) (fun hc=>absurd hc (by simp));refine br func156 1 rfl ?_;refine xo rfl (aq (vs:=[_,_]) func171 rfl H.Kc rfl (ai.bw (zM k3 s))) ?_;rintro _ h4 ⟨rfl,hh4⟩;refine aQ 1 [0,1,4,5,6,12,21,31] rfl ?_;refine G.ret func156 rfl rfl ?_;have e13:aF h1 h3:=aF.only e2 x3 (Nat.le_refl _);exact⟨_,rfl,by rw[hd];rfl,by rw[hh4];exact e1.trans e13⟩
theorem iN (s:By):ai Tryz.prog 136 #[.string (bs s)] h (cL fun r h'=>r=packed [.string (bs (cS s)),.bool (eW s)]∧aF h h'):=by
 have q1:=bp s;have q2:=bp (cS s);refine ai.of func136 rfl rfl ?_;refine aW func136 2 [0,2,3] rfl ?_;refine br func136 1 rfl ?_;refine xo rfl (aq (vs:=[_,_]) func156 rfl H.Kh rfl (ai.bw (BH s))) ?_;rintro _ h1 ⟨rfl,e1⟩;refine aQ 1 [0,2,3,4] rfl ?_;refine br func136 2 rfl ?_;refine xp rfl (aj.bG underlying9 rfl) ?_;refine bP 1 rfl rfl (aj.bG underlying9 rfl) ?_;refine aQ 3 [0,2,3,4] rfl ?_;refine G.ret func136 rfl rfl ?_;exact⟨_,rfl,by unfold eW;rw[q1,q2];simp,e1⟩
def vf (s:By):Bool:=match s with| []=>false|c::_=>decide (c=46)
theorem yX (s:By):ai Tryz.prog 137 #[.string (bs s),.string (bs [46])] h (cL fun r h'=>r=packed [.string (bs (if vf s then s.drop 1 else s)),.bool (vf s)]∧h'=h):=by
 have k:ai Tryz.prog 137 #[.string (bs s),.string (bs [46])] h _:=ai.C0 fun w=>lQ (bs s) (bs [46]) w
 refine k.ret fun v h' ⟨h1,h2⟩=>⟨?_,h2⟩
 rw[h1]
 have e:Lib.hasPrefix (bs s).data.toList (bs [46]).data.toList=vf s:=by
  rw[gC,gC];unfold Lib.hasPrefix vf;cases s with
  |nil=>rfl
  |cons c r=>simp only[List.isPrefixOf,Bool.and_true];rw[Bool.eq_iff_iff];simp only[beq_iff_eq,decide_eq_true_iff];exact eq_comm
 rw[e];unfold Lib.trimPrefix;rw[e,gC,gC];rfl
def jD (s:By) (a b:UInt8):Bool:=match s with| []=>false|c::_=>decide (c=a) ||decide (c=b)
theorem Gg (s:By) (ok:Bool):mo s ok=if (ok && jD s 101 69)=true then (if jD (s.drop 1) 43 45=true then eW ((s.drop 1).drop 1) && decide (cS ((s.drop 1).drop 1)=[]) else eW (s.drop 1) && decide (cS (s.drop 1)=[])) else (ok && decide (s=[])):=by
 cases s with
 |nil=>simp[mo,jD]
 |cons c r =>
  unfold mo jD;simp only[Bool.and_eq_true,Bool.or_eq_true,decide_eq_true_eq,List.drop_succ_cons,List.drop_zero]
  by_cases h:ok=true∧(c=101∨c=69)
  · rw[if_pos h,if_pos h];cases r with
    |nil=>rfl
    |cons d r=>simp only[Bool.or_eq_true,decide_eq_true_eq,List.drop_succ_cons,List.drop_zero]
  · rw[if_neg h,if_neg h];simp
theorem Fz (s:By):BX s=if (eW s && vf (cS s))=true then mo (cS ((cS s).drop 1)) (eW ((cS s).drop 1)) else mo (cS s) (eW s):=by
 unfold BX;cases hd:cS s with
 |nil=>simp[vf,mo]
 |cons c r =>
  simp only[vf,Bool.and_eq_true,decide_eq_true_eq,List.drop_succ_cons,List.drop_zero]
theorem ne_nil {s:By}(h:¬bs s=(⟨#[]⟩:ByteArray)):∃c r,s=c::r:=by
 cases s with
 |nil=>exact absurd rfl h
 |cons c r=>exact⟨c,r,rfl⟩
theorem eq_nil {s:By}(h:bs s=(⟨#[]⟩:ByteArray)):s=[]:=dx (m:=[]) h
theorem fK (c:UInt8) (n:UInt8):decide ((c.toNat:Int)=(n.toNat:Int))=decide (c=n):=Ia c n
theorem wv (s:By):ai Tryz.prog 100 #[.string (bs s)] h (cL fun r h'=>r= .bool (BX s)∧aF h h'):=by
 rw[Fz];refine ai.of func100 rfl rfl ?_;refine aW func100 1 [0,2] rfl ?_;refine br func100 1 rfl ?_;refine xo rfl (aq (vs:=[_]) func136 rfl H.C3 rfl (ai.bw (iN s))) ?_;rintro _ h1 ⟨rfl,e1⟩;refine aQ 5 [0,2,3] rfl ?_;refine av rfl ?_;refine br func100 1 rfl ?_;refine xo rfl (aq (vs:=[_,_]) func137 rfl H.Km rfl (ai.bw (yX (cS s)))) ?_;rintro _ h2 ⟨rfl,hh2⟩;subst hh2;refine aQ 5 [0,2,3,4,5] rfl ?_;refine av rfl ?_;refine G.bD [(19,.bool (eW s && vf (cS s)))] [(0,_),(2,_),(3,_),(4,_),(5,_)] ⟨rfl,rfl,rfl,rfl,rfl,trivial⟩ func100 rfl ?_ ?_
 · refine aT 2 rfl ?_;refine aH (d:=17) rfl (fun a=>?_) (fun a=>?_)
   · refine aT 2 rfl ?_;refine az rfl ?_;exact⟨rfl,aA rfl (by rw[a];rfl),rfl,rfl,rfl,rfl,rfl,trivial⟩
   · refine aT 2 rfl ?_;refine az rfl ?_;exact⟨rfl,aA rfl (by rw[a];rfl),rfl,rfl,rfl,rfl,rfl,trivial⟩
 · have fin:∀(s1:By) (ok1:Bool) (h':aD) (ρ':Env),Sub [(0,.string (bs s1)),(3,.bool ok1)] ρ'→aF h h'→(if (eW s && vf (cS s))=true then mo (cS ((cS s).drop 1)) (eW ((cS s).drop 1)) else mo (cS s) (eW s))=mo s1 ok1→G Tryz.prog 100 f100 [.code [1,1,1]] ρ' h' (cL fun r h'=>r= .bool (if (eW s && vf (cS s))=true then mo (cS ((cS s).drop 1)) (eW ((cS s).drop 1)) else mo (cS s) (eW s))∧aF h h'):=by
    rintro s1 ok1 h3 ρ' hsub e3 hnum;rw[hnum,Gg];have hbz:=bp s1;refine G.sub (ρ':=[(0,.string (bs s1)),(3,.bool ok1)]) hsub ?_;refine av rfl ?_;refine av rfl ?_;refine G.bD [(39,.bool (ok1 && jD s1 101 69))] [(0,_),(3,_)] ⟨rfl,rfl,trivial⟩ func100 rfl ?_ ?_
    · refine aT 2 rfl ?_;refine aH (d:=26) rfl (fun a=>?_) (fun a=>?_)
      · rw[a,Bool.true_and];refine bP 1 rfl rfl (aj.oH rfl rfl) ?_;refine aT 2 rfl ?_;refine aH (d:=30) rfl (fun b=>?_) (fun b=>?_)
        · obtain⟨c,r,rfl⟩:=ne_nil (s:=s1) (by simpa using b);refine bP 1 rfl rfl (aj.cm underlying9 rfl rfl 0 rfl (eF (l:=c::r) rfl)) ?_;refine aT 2 rfl ?_;refine aH (d:=34) rfl (fun d=>?_) (fun d=>?_)
          · refine aT 5 rfl ?_;refine az rfl ?_;exact⟨rfl,aA rfl (by show _=(decide (c=101) ||decide (c=69));rw[←fK c 101,←fK c 69,show (((101:UInt8).toNat:Nat):Int)=101 from rfl,d];rfl),rfl,rfl,trivial⟩
          · refine bP 1 rfl rfl (aj.cm underlying9 rfl rfl 0 rfl (eF (l:=c::r) rfl)) ?_;refine aT 3 rfl ?_;refine az rfl ?_;exact⟨rfl,aA rfl (by show _=(decide (c=101) ||decide (c=69));rw[←fK c 101,←fK c 69,show (((101:UInt8).toNat:Nat):Int)=101 from rfl,d];rfl),rfl,rfl,trivial⟩
        · have hb:s1=[]:=eq_nil (by simpa using b);refine aT 9 rfl ?_;refine az rfl ?_;exact⟨rfl,aA rfl (by rw[hb];rfl),rfl,rfl,trivial⟩
      · rw[a,Bool.false_and];refine aT 13 rfl ?_;refine az rfl ?_;exact⟨rfl,aA rfl (rfl),rfl,rfl,trivial⟩
    · refine aI rfl rfl (fun hq=>?_) (fun hq=>?_)
      · rw[if_pos hq]
        have hne:1≤s1.length:=by
         cases s1 with
         |nil=>simp[jD] at hq
         |cons c r=>simp
        refine br func100 1 rfl ?_;refine xp rfl (aj.cP underlying9 rfl rfl 1 rfl (by omega)) ?_;rw[fm];have hbz2:=bp (s1.drop 1);refine aQ 1 [0,3,39] rfl ?_;refine av rfl ?_;refine av rfl ?_;refine G.bD [(53,.bool (jD (s1.drop 1) 43 45))] [(0,_),(3,_),(39,_)] ⟨rfl,rfl,rfl,trivial⟩ func100 rfl ?_ ?_
        · refine bP 1 rfl rfl (aj.oH rfl rfl) ?_;refine aT 1 rfl ?_;refine aH (d:=44) rfl (fun b=>?_) (fun b=>?_)
          · obtain⟨c,r,hcr⟩:=ne_nil (s:=s1.drop 1) (by simpa using b);rw[hcr];refine bP 1 rfl rfl (aj.cm underlying9 rfl rfl 0 rfl (eF (l:=c::r) rfl)) ?_;refine aT 2 rfl ?_;refine aH (d:=48) rfl (fun d=>?_) (fun d=>?_)
            · refine aT 5 rfl ?_;refine az rfl ?_;exact⟨rfl,aA rfl (by show _=(decide (c=43) ||decide (c=45));rw[←fK c 43,←fK c 45,show (((43:UInt8).toNat:Nat):Int)=43 from rfl,d];rfl),rfl,rfl,rfl,trivial⟩
            · refine bP 1 rfl rfl (aj.cm underlying9 rfl rfl 0 rfl (eF (l:=c::r) rfl)) ?_;refine aT 3 rfl ?_;refine az rfl ?_;exact⟨rfl,aA rfl (by show _=(decide (c=43) ||decide (c=45));rw[←fK c 43,←fK c 45,show (((43:UInt8).toNat:Nat):Int)=43 from rfl,d];rfl),rfl,rfl,rfl,trivial⟩
          · have hb:s1.drop 1=[]:=eq_nil (by simpa using b);refine aT 9 rfl ?_;refine az rfl ?_;exact⟨rfl,aA rfl (by rw[hb];rfl),rfl,rfl,rfl,trivial⟩
        · refine aI rfl rfl (fun hg=>?_) (fun hg=>?_)
          · rw[if_pos hg]
            have hne2:1≤(s1.drop 1).length:=by
             cases hs:s1.drop 1 with
             |nil=>rw[hs] at hg;simp[jD] at hg
             |cons c r=>simp
            refine G.bT func100 rfl ?_;refine bP 1 rfl rfl (aj.cP underlying9 rfl rfl 1 rfl (by omega)) ?_;rw[fm];refine aQ 1 [0,3,39,53] rfl ?_;refine G.bT func100 rfl ?_;refine aT 1 rfl ?_;refine xo rfl (aq (vs:=[_]) func136 rfl H.C3 rfl (ai.bw (iN ((s1.drop 1).drop 1)))) ?_;rintro _ h4 ⟨rfl,e4⟩;refine aQ 5 [0,3,39,53] rfl ?_;refine av rfl ?_;refine G.bD [(2,.bool (eW ((s1.drop 1).drop 1) && decide (cS ((s1.drop 1).drop 1)=[])))] [(0,_),(3,_),(39,_),(53,_)] ⟨rfl,rfl,rfl,rfl,trivial⟩ func100 rfl ?_ ?_
            · refine aT 2 rfl ?_;refine aH (d:=62) rfl (fun b=>?_) (fun b=>?_)
              · refine bP 1 rfl rfl (aj.cI rfl rfl) ?_;refine aT 2 rfl ?_;refine az rfl ?_;exact⟨rfl,aA rfl (by rw[b];exact jV _),rfl,rfl,rfl,rfl,trivial⟩
              · refine aT 4 rfl ?_;refine az rfl ?_;exact⟨rfl,aA rfl (by rw[b];rfl),rfl,rfl,rfl,rfl,trivial⟩
            · refine G.ret func100 rfl rfl ?_;exact⟨_,rfl,rfl,e3.trans e4⟩
          · rw[if_neg (by rw[hg];decide)];refine aE rfl ?_;refine G.bT func100 rfl ?_;refine aT 1 rfl ?_;refine xo rfl (aq (vs:=[_]) func136 rfl H.C3 rfl (ai.bw (iN (s1.drop 1)))) ?_;rintro _ h4 ⟨rfl,e4⟩;refine aQ 5 [0,3,39,53] rfl ?_;refine av rfl ?_;refine G.bD [(2,.bool (eW (s1.drop 1) && decide (cS (s1.drop 1)=[])))] [(0,_),(3,_),(39,_),(53,_)] ⟨rfl,rfl,rfl,rfl,trivial⟩ func100 rfl ?_ ?_
            · refine aT 2 rfl ?_;refine aH (d:=62) rfl (fun b=>?_) (fun b=>?_)
              · refine bP 1 rfl rfl (aj.cI rfl rfl) ?_;refine aT 2 rfl ?_;refine az rfl ?_;exact⟨rfl,aA rfl (by rw[b];exact jV _),rfl,rfl,rfl,rfl,trivial⟩
              · refine aT 4 rfl ?_;refine az rfl ?_;exact⟨rfl,aA rfl (by rw[b];rfl),rfl,rfl,rfl,rfl,trivial⟩
            · refine G.ret func100 rfl rfl ?_;exact⟨_,rfl,rfl,e3.trans e4⟩
      · rw[if_neg (by rw[hq];decide)];refine aE rfl ?_;refine av rfl ?_;refine G.bD [(2,.bool (ok1 && decide (s1=[])))] [(0,_),(3,_),(39,_)] ⟨rfl,rfl,rfl,trivial⟩ func100 rfl ?_ ?_
        · refine aT 2 rfl ?_;refine aH (d:=62) rfl (fun b=>?_) (fun b=>?_)
          · refine bP 1 rfl rfl (aj.cI rfl rfl) ?_;refine aT 2 rfl ?_;refine az rfl ?_;exact⟨rfl,aA rfl (by rw[b];exact jV _),rfl,rfl,rfl,trivial⟩
          · refine aT 4 rfl ?_;refine az rfl ?_;exact⟨rfl,aA rfl (by rw[b];rfl),rfl,rfl,rfl,trivial⟩
        · refine G.ret func100 rfl rfl ?_;exact⟨_,rfl,rfl,e3⟩
   refine aI rfl rfl (fun hp=>?_) (fun hp=>?_)
   · have hp2:vf (cS s)=true:=by rw[Bool.and_eq_true] at hp;exact hp.2
     rw[if_pos hp2];refine G.bT func100 rfl ?_;refine aT 1 rfl ?_;refine xo rfl (aq (vs:=[_]) func136 rfl H.C3 rfl (ai.bw (iN ((cS s).drop 1)))) ?_;rintro _ h4 ⟨rfl,e4⟩;refine aQ 5 [0,2,3,4,5,19] rfl ?_;exact fin _ _ _ _ ⟨rfl,rfl,trivial⟩ (e1.trans e4) (if_pos hp)
   · refine aE rfl ?_;exact fin _ _ _ _ ⟨rfl,rfl,trivial⟩ e1 (if_neg (by rw[hp];decide))
end
end Go.Proofs.YtedocgkapmeceaaGreatDoor
namespace Go.Proofs.YtedocgkapmeceaaGreatDoor
open Go
mutual
def Tr.wt:Tr→Nat
 |.mk _ t l=>2*t.length+20+pH l
def pH:List Tr→Nat
 | []=>0
 |x::l=>x.wt+pH l
end
theorem CK {l:List Tr}{x:Tr}(h:x∈l):x.wt≤pH l:=by
 induction l with
 |nil=>cases h
 |cons a l ih =>
  rw[pH]
  rcases List.mem_cons.1 h with rfl|h
  · omega
  · have:=ih h;omega
theorem jJ {k:Int}{t:By}{l:List Tr}{x:Tr}(h:x∈l):x.wt+20≤(Tr.mk k t l).wt:=by
 rw[Tr.wt];have:=CK h;omega
theorem tj (k:Int) (t:By) (l:List Tr):2*t.length+20≤(Tr.mk k t l).wt:=by rw[Tr.wt];omega
def sP (l:List By):Nat:=(l.map List.length).sum
theorem ql:∀l:List By,(dP l).length≤sP l+2*l.length
 | []=>by simp[dP]
 | [x]=>by simp[dP,sP]
 |x::y::l=>by
  have:=ql (y::l);rw[dP];simp only[List.length_append,List.length_cons,List.length_nil,sP,List.map_cons,List.sum_cons] at *;omega
theorem AX (l:List By):(l.getD 0 []).length+(l.getD 1 []).length+(l.getD 2 []).length≤sP l:=by
 match l with
 | []=>simp
 | [a]=>simp[sP]
 | [a,b]=>simp[sP]
 |a::b::c::l=>simp[sP];omega
theorem DV (c:UInt8):(cV c).length≤2:=by unfold cV;split<;>simp
theorem DU (s:By):(uf s).length≤2*s.length+2:=by
 unfold uf;simp only[List.length_cons,List.length_append,List.length_nil]
 have:(s.flatMap cV).length≤2*s.length:=by
  induction s with
  |nil=>simp
  |cons c s ih=>rw[List.flatMap_cons,List.length_append,List.length_cons];have:=DV c;omega
 omega
theorem E9 (k:Int) (t:By) (l:List By):(rV k t l).length≤2*t.length+18+2*l.length+sP l:=by
 have h1:=DU t;have h2:=AX l;have h3:=ql l;unfold rV sH
 repeat' split
 all_goals ((try simp only[List.length_append,List.length_cons,List.length_nil]);omega)
theorem GA (l:List By):(sH l).length≤18+sP l:=by
 have h2:=AX l;unfold sH;simp only[List.length_append,List.length_cons,List.length_nil];omega
theorem gw:∀(l:List Tr) (s:Bool) (i:Nat),(eJ s i l).length=l.length
 | [],_,_=>by rw[eJ];rfl
 |_::l,s,i=>by rw[eJ,List.length_cons,gw l];rfl
mutual
theorem ig:∀(x:Tr) (b:Bool),(bl b x).length+2≤x.wt
 |.mk k t l,b=>by
  have h1:=iU l (decide (k=6)) 0;have h2:=E9 k t (eJ (decide (k=6)) 0 l);have h3:=GA (eJ (decide (k=6)) 0 l);have h4:=gw l (decide (k=6)) 0;rw[bl,Tr.wt];split<;>omega
theorem iU:∀(l:List Tr) (s:Bool) (i:Nat),sP (eJ s i l)+2*l.length≤pH l
 | [],_,_=>by rw[eJ];simp[sP,pH]
 |x::l,s,i=>by
  have h1:=ig x (s && decide (i=2));have h2:=iU l s (i+1);rw[eJ,pH];simp only[sP,List.map_cons,List.sum_cons,List.length_cons] at *;omega
end
def wS (j:Nat) (c:UInt8):Bool:=isLet c ||(decide (j≠0) && jC c)
def AB (s:By):Bool:=match s with| []=>false|c::r=>isLet c && r.all fun c=>isLet c ||jC c
theorem wY (word:By→Bool) (s:By):lA word s=(AB s && !word s):=by cases s<;>rfl
theorem wW (s:By):AB s=true↔s≠[]∧∀j c,s[j]? =some c→wS j c=true:=by
 cases s with
 |nil=>simp[AB]
 |cons c r =>
  simp only[AB,Bool.and_eq_true,List.all_eq_true];constructor
  · intro ⟨h1,h2⟩;refine⟨by simp,fun j d hd=>?_⟩;cases j with
    |zero=>simp at hd;subst hd;unfold wS;rw[h1];rfl
    |succ j =>
     have:=h2 d (List.mem_of_getElem? (by simpa using hd));unfold wS;simpa using this
  · intro ⟨_,h⟩;refine⟨by simpa [wS] using h 0 c rfl,fun d hd=>?_⟩;obtain⟨j,hj⟩:=List.getElem?_of_mem hd;simpa [wS] using h (j+1) d (by simpa using hj)
theorem AA (word:By→Bool){s:By}{j:Nat}{c:UInt8}(h:s[j]? =some c) (hc:wS j c=false):lA word s=false:=by
 rw[wY]
 have:¬AB s=true:=fun q=>by
  have:=((wW s).1 q).2 j c h;rw[hc] at this;cases this
 rw[Bool.eq_false_iff.2 this];rfl
theorem wX (word:By→Bool){s:By}(h0:s≠[]) (h:∀j c,s[j]? =some c→wS j c=true):lA word s= !word s:=by
 rw[wY,(wW s).2 ⟨h0,h⟩,Bool.true_and]
theorem wV (word:By→Bool):lA word []=false:=rfl
theorem Eh (c:UInt8):isLet c=decide ((97≤c.toNat∧c.toNat≤122)∨(65≤c.toNat∧c.toNat≤90)∨c.toNat=95):=by
 have k:∀n:Fin 256,isLet (UInt8.ofFin n)=decide ((97≤(UInt8.ofFin n).toNat∧(UInt8.ofFin n).toNat≤122)∨(65≤(UInt8.ofFin n).toNat∧(UInt8.ofFin n).toNat≤90)∨(UInt8.ofFin n).toNat=95):=by unfold isLet;decide +kernel
 exact k c.toFin
theorem ri (c:UInt8):jC c=decide (48≤c.toNat∧c.toNat≤57):=by
 have k:∀n:Fin 256,jC (UInt8.ofFin n)=decide (48≤(UInt8.ofFin n).toNat∧(UInt8.ofFin n).toNat≤57):=by unfold jC;decide +kernel
 exact k c.toFin
end Go.Proofs.YtedocgkapmeceaaGreatDoor
namespace Go.Proofs.YtedocgkapmeceaaGreatDoor
open Go.Proofs.Tryz
open Go Go.Lw
set_option maxRecDepth 20000
section
variable {h:aD}{x:Tr}{O:Nat→Prop}{v:Value}{l:List Tr}{α:Type}
structure Dq (h:aD):Prop where
 lx:CF h
 esc:ox h
 una:∃v,cellAt h ⟨2,0,none⟩=some v∧bU mV h (fun _=>False) v wH
 bin:∃v,cellAt h ⟨3,0,none⟩=some v∧bU mV h (fun _=>False) v nh
theorem Dq.ax {h h':aD}(k:Dq h) (e:aF h h'):Dq h':=by
 obtain⟨h1,h2,⟨v,h3,h4⟩,w,h5,h6⟩:=k;exact⟨h1.ax e,h2.ax e,⟨v,e.cell (fun k=>k) h3,h4.mv (Mv.ax e)⟩,⟨w,e.cell (fun k=>k) h5,h6.mv (Mv.ax e)⟩⟩
theorem vX (c:UInt8):ai Tryz.prog 138 #[.int .u8 (c.toNat:Nat)] h (cL fun r h'=>r= .bool (isLet c)∧h'=h):=by
 rw[Eh];refine ai.of func138 rfl rfl ?_;refine aW func138 1 [0,2] rfl ?_;refine av rfl ?_;refine G.bD [(2,.bool (decide ((97≤c.toNat∧c.toNat≤122)∨(65≤c.toNat∧c.toNat≤90)∨c.toNat=95)))] [(0,_)] ⟨rfl,trivial⟩ func138 rfl ?_ ?_
 · refine aT 3 rfl ?_;refine aH (d:=5) rfl (fun a=>?_) (fun a=>?_)
   · have a:=of_decide_eq_true a;refine aT 4 rfl ?_;refine aH (d:=9) rfl (fun b=>?_) (fun b=>?_)
     · have b:=of_decide_eq_true b;refine aT 12 rfl ?_;refine az rfl ?_;exact⟨rfl,aA rfl (by rw[decide_eq_true (by omega)]),rfl,trivial⟩
     · have b:=of_decide_eq_false b;refine aT 3 rfl ?_;refine aH (d:=12) rfl (fun d=>?_) (fun d=>?_)
       · have d:=of_decide_eq_true d;refine aT 5 rfl ?_;refine aH (d:=17) rfl (fun e=>?_) (fun e=>?_)
         · have e:=of_decide_eq_true e;refine aT 4 rfl ?_;refine az rfl ?_;exact⟨rfl,aA rfl (by rw[decide_eq_true (by omega)]),rfl,trivial⟩
         · have e:=of_decide_eq_false e;refine aT 4 rfl ?_;refine az rfl ?_;exact⟨rfl,aA rfl (by rw[decide_eq_decide];omega),rfl,trivial⟩
       · have d:=of_decide_eq_false d;refine aT 9 rfl ?_;refine az rfl ?_;exact⟨rfl,aA rfl (by rw[decide_eq_decide];omega),rfl,trivial⟩
   · have a:=of_decide_eq_false a;refine aT 7 rfl ?_;refine aH (d:=12) rfl (fun d=>?_) (fun d=>?_)
     · have d:=of_decide_eq_true d;refine aT 5 rfl ?_;refine aH (d:=17) rfl (fun e=>?_) (fun e=>?_)
       · have e:=of_decide_eq_true e;refine aT 4 rfl ?_;refine az rfl ?_;exact⟨rfl,aA rfl (by rw[decide_eq_true (by omega)]),rfl,trivial⟩
       · have e:=of_decide_eq_false e;refine aT 4 rfl ?_;refine az rfl ?_;exact⟨rfl,aA rfl (by rw[decide_eq_decide];omega),rfl,trivial⟩
     · have d:=of_decide_eq_false d;refine aT 9 rfl ?_;refine az rfl ?_;exact⟨rfl,aA rfl (by rw[decide_eq_decide];omega),rfl,trivial⟩
 · refine G.ret func138 rfl rfl ?_;exact⟨_,rfl,rfl,rfl⟩
theorem xS (c:UInt8):ai Tryz.prog 139 #[.int .u8 (c.toNat:Nat)] h (cL fun r h'=>r= .bool (jC c)∧h'=h):=by
 rw[ri];refine ai.of func139 rfl rfl ?_;refine aW func139 1 [0,2] rfl ?_;refine av rfl ?_;refine G.bD [(2,.bool (decide (48≤c.toNat∧c.toNat≤57)))] [(0,_)] ⟨rfl,trivial⟩ func139 rfl ?_ ?_
 · refine aT 3 rfl ?_;refine aH (d:=5) rfl (fun a=>?_) (fun a=>?_)
   · have a:=of_decide_eq_true a;refine aT 4 rfl ?_;refine az rfl ?_;exact⟨rfl,aA rfl (by rw[decide_eq_decide];omega),rfl,trivial⟩
   · have a:=of_decide_eq_false a;refine aT 4 rfl ?_;refine az rfl ?_;exact⟨rfl,aA rfl (by rw[decide_eq_false (by omega)]),rfl,trivial⟩
 · refine G.ret func139 rfl rfl ?_;exact⟨_,rfl,rfl,rfl⟩
theorem mO (hg:CF h) (s:By) (hs:s.length≤1000000):ai Tryz.prog 101 #[.string (bs s)] h (cL fun r h'=>r= .bool (lA bX s)∧h'=h):=by
 have hbz:=bp s;refine ai.of func101 rfl rfl ?_;refine aW func101 1 [0,2] rfl ?_;refine av rfl ?_;refine br func101 1 rfl ?_;refine xp rfl (aj.bG underlying9 rfl) ?_;refine aQ 1 [0,2,5,6] rfl ?_;refine G.block rfl rfl ?_;refine bE (σ:=Nat) (fun i=>[(0,.string (bs s)),(5,.int .i64 ((bs s).size:Nat)),(6,.int .i64 (i:Nat))]) (fun i g=>g=h∧i≤s.length∧∀j c,j<i→s[j]? =some c→wS j c=true) (fun i=>s.length-i) (0) rfl ⟨rfl,rfl,rfl,trivial⟩ ⟨rfl,Nat.zero_le _,fun j c q=>by omega⟩ ?_;rintro i g ⟨rfl,hi,hin⟩ ih;refine aW func101 1 [0,5,6,7] rfl ?_;refine av rfl ?_;refine aL rfl rfl (fun hlt=>?_) (fun hlt=>?_)
 · have hil:i<s.length:=by omega
   obtain⟨c,hc⟩:∃c,s[i]? =some c:=⟨_,List.getElem?_eq_getElem hil⟩
   refine aE rfl ?_;refine av rfl ?_;refine G.block rfl rfl ?_;refine aW func101 2 [0,3,5,6,7] rfl ?_;refine av rfl ?_;refine G.bD [(24,.bool (!wS i c))] [(0,_),(3,_),(5,_),(6,_),(7,_)] ⟨rfl,rfl,rfl,rfl,rfl,trivial⟩ func101 rfl ?_ ?_
   · refine bP 2 rfl rfl (aj.cm underlying9 rfl rfl i rfl (eF hc)) ?_;refine xo rfl (aq (vs:=[_]) func138 rfl H.Kl rfl (ai.bw (vX c))) ?_;rintro _ g1 ⟨rfl,hg1⟩;subst hg1;refine aT 2 rfl ?_;refine aH (d:=14) rfl (fun a=>?_) (fun a=>?_)
     · have a:isLet c=false:=by simpa using a
       refine aT 3 rfl ?_;refine aH (d:=17) rfl (fun z=>?_) (fun z=>?_)
       · have z:=of_decide_eq_true z;refine aT 7 rfl ?_;refine az rfl ?_;exact⟨rfl,aA rfl (by unfold wS;rw[a,decide_eq_false (by omega)];rfl),rfl,rfl,rfl,rfl,rfl,trivial⟩
       · have z:=of_decide_eq_false z;refine bP 2 rfl rfl (aj.cm underlying9 rfl rfl i rfl (eF hc)) ?_;refine xo rfl (aq (vs:=[_]) func139 rfl H.Kk rfl (ai.bw (xS c))) ?_;rintro _ g1 ⟨rfl,hg1⟩;subst hg1;refine aT 3 rfl ?_;refine az rfl ?_;exact⟨rfl,aA rfl (by unfold wS;rw[a,decide_eq_true (show i≠0 by omega)];rfl),rfl,rfl,rfl,rfl,rfl,trivial⟩
     · have a:isLet c=true:=by simpa using a
       refine aT 10 rfl ?_;refine az rfl ?_;exact⟨rfl,aA rfl (by unfold wS;rw[a];rfl),rfl,rfl,rfl,rfl,rfl,trivial⟩
   · refine aI rfl rfl (fun hb=>?_) (fun hb=>?_)
     · have hb:wS i c=false:=by simpa using hb
       refine aW func101 1 [0,2,3,5,6,7,24] rfl ?_;refine G.ret func101 rfl rfl ?_;exact⟨_,rfl,by rw[AA bX hc hb];rfl,rfl⟩
     · have hb:wS i c=true:=by simpa using hb
       refine aE rfl ?_;refine G.aN ?_;refine G.bT func101 rfl ?_;refine xp rfl (aj.bA rfl rfl ⟨by omega,by omega⟩) ?_;refine aQ 1 [0,3,5,6,7,24] rfl ?_;exact ih (i+1) _ _ ⟨rfl,rfl,rfl,trivial⟩ ⟨rfl,hil,fun j d hj hd=>(Nat.lt_succ_iff_lt_or_eq.1 hj).elim (fun q=>hin j d q hd) (fun q=>by subst q;rw[hc] at hd;cases hd;exact hb)⟩ (by omega)
 · refine bz rfl rfl ?_;refine av rfl ?_;refine G.bD [(2,.bool (lA bX s))] [(0,_),(5,_),(6,_),(7,_)] ⟨rfl,rfl,rfl,rfl,trivial⟩ func101 rfl ?_ ?_
   · refine bP 1 rfl rfl (aj.oH rfl rfl) ?_;refine aT 1 rfl ?_;refine aH (d:=28) rfl (fun a=>?_) (fun a=>?_)
     · have h0:s≠[]:=fun q=>by rw[q] at a;exact of_decide_eq_true a rfl
       refine aT 1 rfl ?_;refine xo rfl (aq (vs:=[_]) func77 rfl H.JX rfl (ai.bw (tH hg s hs))) ?_;rintro _ g1 ⟨rfl,hg1⟩;subst hg1;refine aT 3 rfl ?_;refine az rfl ?_;exact⟨rfl,aA rfl (by rw[wX bX h0 (fun j c hj=>hin j c (by have:=(List.getElem?_eq_some_iff.1 hj).1;omega) hj)]),rfl,rfl,rfl,rfl,trivial⟩
     · have h0:s=[]:=by simpa using eq_nil (s:=s) (by simpa using a)
       refine aT 5 rfl ?_;refine az rfl ?_;exact⟨rfl,aA rfl (by rw[h0,wV]),rfl,rfl,rfl,rfl,trivial⟩
   · refine G.ret func101 rfl rfl ?_;exact⟨_,rfl,rfl,rfl⟩
theorem Ce (k:Int):ai Tryz.prog 99 #[.int .i64 k] h (cL fun r h'=>r=packed [.int .i64 ((cz k).1:Nat),.int .i64 ((cz k).2:Nat)]∧h'=h):=by
 refine ai.of func99 rfl rfl ?_;refine aW func99 2 [0,2,3] rfl ?_;refine av rfl ?_;refine aW func99 1 [0,2,3,4] rfl ?_;refine G.block rfl rfl ?_;refine av rfl ?_;refine aW func99 2 [0,2,3,4,5] rfl ?_;refine aL rfl rfl (fun c4=>?_) (fun c4=>?_)
 · refine aE rfl ?_;refine aI rfl rfl (fun _=>?_) (fun hc=>absurd hc (by simp[c4]));refine aW func99 2 [0,2,3,4,5] rfl ?_;refine G.ret func99 rfl rfl ?_;exact⟨_,rfl,by unfold cz;rw[if_pos (.inl c4)];rfl,rfl⟩
 · refine G.bT func99 rfl ?_;refine aQ 2 [0,2,3,4,5] rfl ?_;refine aL rfl rfl (fun c8=>?_) (fun c8=>?_)
   · refine aW func99 2 [0,2,3,4,5] rfl ?_;refine G.ret func99 rfl rfl ?_;exact⟨_,rfl,by unfold cz;rw[if_pos (.inr c8)];rfl,rfl⟩
   · refine av rfl ?_;refine aW func99 2 [0,2,3,4,5,8] rfl ?_;refine aL rfl rfl (fun c5=>?_) (fun c5=>?_)
     · refine aE rfl ?_;refine aI rfl rfl (fun _=>?_) (fun hc=>absurd hc (by simp[c5]));refine aW func99 2 [0,2,3,4,5,8] rfl ?_;refine G.ret func99 rfl rfl ?_;exact⟨_,rfl,by unfold cz;rw[if_neg (by omega),if_pos (.inl c5)];rfl,rfl⟩
     · refine G.bT func99 rfl ?_;refine aQ 2 [0,2,3,4,5,8] rfl ?_;refine aL rfl rfl (fun c9=>?_) (fun c9=>?_)
       · refine aW func99 2 [0,2,3,4,5,8] rfl ?_;refine G.ret func99 rfl rfl ?_;exact⟨_,rfl,by unfold cz;rw[if_neg (by omega),if_pos (.inr c9)];rfl,rfl⟩
       · refine aW func99 2 [0,2,3,4,5,8,11] rfl ?_;refine aL rfl rfl (fun c6=>?_) (fun c6=>?_)
         · refine aW func99 2 [0,2,3,4,5,8,11] rfl ?_;refine G.ret func99 rfl rfl ?_;exact⟨_,rfl,by unfold cz;rw[if_neg (by omega),if_neg (by omega),if_pos c6];rfl,rfl⟩
         · refine aW func99 2 [0,2,3,4,5,8,11,13] rfl ?_;refine aL rfl rfl (fun c7=>?_) (fun c7=>?_)
           · refine aW func99 2 [0,2,3,4,5,8,11,13] rfl ?_;refine G.ret func99 rfl rfl ?_;exact⟨_,rfl,by unfold cz;rw[if_neg (by omega),if_neg (by omega),if_neg c6,if_pos c7];rfl,rfl⟩
           · refine aW func99 2 [0,2,3,4,5,8,11,13,15] rfl ?_;refine aL rfl rfl (fun c10=>?_) (fun c10=>?_)
             · refine aW func99 2 [0,2,3,4,5,8,11,13,15] rfl ?_;refine G.ret func99 rfl rfl ?_;exact⟨_,rfl,by unfold cz;rw[if_neg (by omega),if_neg (by omega),if_neg c6,if_neg c7,if_pos c10];rfl,rfl⟩
             · refine aE rfl ?_;refine G.aN ?_;refine aW func99 2 [0,2,3,4,5,8,11,13,15] rfl ?_;refine G.ret func99 rfl rfl ?_;exact⟨_,rfl,by unfold cz;rw[if_neg (by omega),if_neg (by omega),if_neg c6,if_neg c7,if_neg c10];rfl,rfl⟩
def bounds (k:Int) (n:Nat):Bool:=decide ((0≤k∧k≤10)∧(cz k).1≤n∧n≤(cz k).2)
theorem ku (word:By→Bool) (k:Int) (t:By) (n:Nat):oF word k t n=(bounds k n && cY word k t):=by
 unfold oF bounds;rw[Bool.eq_iff_iff];simp only[Bool.and_eq_true,decide_eq_true_eq];constructor
 · intro ⟨a,b,c,d,e⟩;exact⟨⟨⟨c,d⟩,a,b⟩,e⟩
 · intro ⟨⟨⟨c,d⟩,a,b⟩,e⟩;exact⟨a,b,c,d,e⟩
abbrev iJ (k:Int) (t:By) (a:Option Addr) (n c:Nat):List Value:=[.int .i64 k,.string (bs t),.slice a n c]
theorem Ac (hg:Dq h) (k:Int) (t:By) (a:Option Addr) (n c:Nat) (ht:t.length≤1000000) :
 ai Tryz.prog 54 #[.agg #[.int .i64 k,.string (bs t),.slice a n c]] h (cL fun r h'=>r= .bool (oF bX k t n)∧aF h h'):=by
 rw[ku];have hbz:=bp t;refine ai.of func54 rfl rfl ?_;refine xr func54 rfl ?_;refine xo rfl (aC.fe rfl) ?_;rintro _ h1 ⟨rfl,k1,e1,z1⟩;have k1:bq h1 h.size 39 (iJ k t a n c):=k1;refine aQ 1 [0,1,2] rfl ?_;refine xr func54 rfl ?_;refine xp rfl (af (off:=0) underlying39 rfl rfl H.bY rfl) ?_;refine xp rfl (ah H.cG rfl (k1.cell (i:=0) rfl)) ?_;refine xo rfl (aq (vs:=[_]) func99 rfl H.Lx rfl (ai.bw (Ce k))) ?_;rintro _ h2 ⟨rfl,hh2⟩;subst hh2;refine aQ 5 [0,1,2,3,4] rfl ?_;refine av rfl ?_;refine av rfl ?_;refine G.bD [(32,.bool (!bounds k n))] [(0,_),(1,_),(2,_),(3,_),(4,_)] ⟨rfl,rfl,rfl,rfl,rfl,trivial⟩ func54 rfl ?_ ?_
 · refine xp rfl (af (off:=0) underlying39 rfl rfl H.bY rfl) ?_;refine xp rfl (ah H.cG rfl (k1.cell (i:=0) rfl)) ?_;refine aT 2 rfl ?_;refine aH (d:=14) rfl (fun a=>?_) (fun a=>?_)
   · have a:=of_decide_eq_true a;refine aT 18 rfl ?_;refine az rfl ?_;exact⟨rfl,aA rfl (by unfold bounds;rw[decide_eq_false (by omega)];rfl),rfl,rfl,rfl,rfl,rfl,trivial⟩
   · have a:=of_decide_eq_false a;refine xp rfl (af (off:=0) underlying39 rfl rfl H.bY rfl) ?_;refine xp rfl (ah H.cG rfl (k1.cell (i:=0) rfl)) ?_;refine aT 3 rfl ?_;refine aH (d:=19) rfl (fun b=>?_) (fun b=>?_)
     · have b:=of_decide_eq_true b;refine aT 13 rfl ?_;refine az rfl ?_;exact⟨rfl,aA rfl (by unfold bounds;rw[decide_eq_false (by omega)];rfl),rfl,rfl,rfl,rfl,rfl,trivial⟩
     · have b:=of_decide_eq_false b;refine xp rfl (af (off:=2) underlying39 rfl rfl H.fE rfl) ?_;refine xp rfl (ah H.kN rfl (k1.cell (i:=2) rfl)) ?_;refine xp rfl (aj.aJ underlying28 rfl) ?_;refine aT 4 rfl ?_;refine aH (d:=26) rfl (fun d=>?_) (fun d=>?_)
       · have d:=of_decide_eq_true d;refine aT 6 rfl ?_;refine az rfl ?_;exact⟨rfl,aA rfl (by unfold bounds;rw[decide_eq_false (by omega)];rfl),rfl,rfl,rfl,rfl,rfl,trivial⟩
       · have d:=of_decide_eq_false d;refine xp rfl (af (off:=2) underlying39 rfl rfl H.fE rfl) ?_;refine xp rfl (ah H.kN rfl (k1.cell (i:=2) rfl)) ?_;refine xp rfl (aj.aJ underlying28 rfl) ?_;refine aT 3 rfl ?_;refine az rfl ?_;exact⟨rfl,aA rfl (by unfold bounds;rw[←decide_not,decide_eq_decide];omega),rfl,rfl,rfl,rfl,rfl,trivial⟩
 · refine aI rfl rfl (fun hb=>?_) (fun hb=>?_)
   · have hb:bounds k n=false:=by simpa using hb
     rw[hb];refine aW func54 1 [0,1,2,3,4,32] rfl ?_;refine G.ret func54 rfl rfl ?_;exact⟨_,rfl,rfl,e1⟩
   · have hb:bounds k n=true:=by simpa using hb
     rw[hb,Bool.true_and];refine aE rfl ?_;refine av rfl ?_;refine xr func54 rfl ?_;refine xp rfl (af (off:=0) underlying39 rfl rfl H.bY rfl) ?_;refine xp rfl (ah H.cG rfl (k1.cell (i:=0) rfl)) ?_;refine xd [0,1,2,3,4,32,34] rfl ?_;refine G.block rfl rfl ?_;refine aW func54 2 [0,1,2,3,4,32,34,35] rfl ?_;refine aL rfl rfl (fun c0=>?_) (fun c0=>?_)
     · refine xr func54 rfl ?_;refine xp rfl (af (off:=1) underlying39 rfl rfl H.dA rfl) ?_;refine xp rfl (ah H.dO rfl (k1.cell (i:=1) rfl)) ?_;refine xo rfl (aq (vs:=[_]) func100 rfl H.Kw rfl (ai.bw (wv t))) ?_;rintro _ h3 ⟨rfl,e3⟩;refine aQ 1 [0,1,2,3,4,32,34,35] rfl ?_;refine G.ret func54 rfl rfl ?_;exact⟨_,rfl,by unfold cY;rw[if_pos c0];rfl,e1.trans e3⟩
     · refine aW func54 2 [0,1,2,3,4,32,34,35,40] rfl ?_;refine aL rfl rfl (fun c1=>?_) (fun c1=>?_)
       · refine xr func54 rfl ?_;refine xp rfl (af (off:=1) underlying39 rfl rfl H.dA rfl) ?_;refine xp rfl (ah H.dO rfl (k1.cell (i:=1) rfl)) ?_;refine xp rfl (aj.bG underlying9 rfl) ?_;refine aQ 2 [0,1,2,3,4,32,34,35,40] rfl ?_;refine G.ret func54 rfl rfl ?_;exact⟨_,rfl,by unfold cY;rw[if_neg c0,if_pos c1];show Value.bool _=_;rw[hbz];simp only[Value.bool.injEq,decide_eq_decide];omega,e1⟩
       · refine aW func54 2 [0,1,2,3,4,32,34,35,40,46] rfl ?_;refine aL rfl rfl (fun c2=>?_) (fun c2=>?_)
         · refine av rfl ?_;refine G.bD [(2,.bool (decide (t=iS) ||decide (t=kZ)))] [(0,_),(1,_),(3,_),(4,_),(32,_),(34,_),(35,_),(40,_),(46,_)] ⟨rfl,rfl,rfl,rfl,rfl,rfl,rfl,rfl,rfl,trivial⟩ func54 rfl ?_ ?_
           · refine xp rfl (af (off:=1) underlying39 rfl rfl H.dA rfl) ?_;refine xp rfl (ah H.dO rfl (k1.cell (i:=1) rfl)) ?_;refine xp rfl (aj.cI rfl rfl) ?_;refine aT 1 rfl ?_;refine aH (d:=51) rfl (fun g=>?_) (fun g=>?_)
             · have g:t=iS:=dx (m:=iS) (of_decide_eq_true g);refine aT 5 rfl ?_;refine az rfl ?_;exact⟨rfl,aA rfl (by rw[decide_eq_true g];rfl),rfl,rfl,rfl,rfl,rfl,rfl,rfl,rfl,rfl,trivial⟩
             · have g:¬t=iS:=fun q=>of_decide_eq_false g (by rw[q];rfl)
               refine xp rfl (af (off:=1) underlying39 rfl rfl H.dA rfl) ?_;refine xp rfl (ah H.dO rfl (k1.cell (i:=1) rfl)) ?_;refine xp rfl (aj.cI rfl rfl) ?_;refine aT 2 rfl ?_;refine az rfl ?_;exact⟨rfl,aA rfl (by rw[decide_eq_false g,Bool.false_or];exact Dg t kZ),rfl,rfl,rfl,rfl,rfl,rfl,rfl,rfl,rfl,trivial⟩
           · refine G.ret func54 rfl rfl ?_;exact⟨_,rfl,by unfold cY;rw[if_neg c0,if_neg c1,if_pos c2];rfl,e1⟩
         · refine av rfl ?_;refine aW func54 2 [0,1,2,3,4,32,34,35,40,46,56] rfl ?_;refine aL rfl rfl (fun c3=>?_) (fun c3=>?_)
           · refine aE rfl ?_;refine aI rfl rfl (fun _=>?_) (fun hc=>absurd hc (by simp[c3]));refine xr func54 rfl ?_;refine xp rfl (af (off:=1) underlying39 rfl rfl H.dA rfl) ?_;refine xp rfl (ah H.dO rfl (k1.cell (i:=1) rfl)) ?_;refine xo rfl (aq (vs:=[_]) func101 rfl H.FL rfl (ai.bw (mO (hg.ax e1).lx t ht))) ?_;rintro _ h3 ⟨rfl,hh3⟩;refine aQ 1 [0,1,2,3,4,32,34,35,40,46,56] rfl ?_;refine G.ret func54 rfl rfl ?_;exact⟨_,rfl,by unfold cY;rw[if_neg c0,if_neg c1,if_neg c2,if_pos (.inl c3)];rfl,by rw[hh3];exact e1⟩
           · refine aW func54 2 [0,1,2,3,4,32,34,35,40,46,56] rfl ?_;refine aL rfl rfl (fun c7=>?_) (fun c7=>?_)
             · refine aE rfl ?_;refine aI rfl rfl (fun _=>?_) (fun hc=>absurd hc (by simp[c7]));refine xr func54 rfl ?_;refine xp rfl (af (off:=1) underlying39 rfl rfl H.dA rfl) ?_;refine xp rfl (ah H.dO rfl (k1.cell (i:=1) rfl)) ?_;refine xo rfl (aq (vs:=[_]) func101 rfl H.FL rfl (ai.bw (mO (hg.ax e1).lx t ht))) ?_;rintro _ h3 ⟨rfl,hh3⟩;refine aQ 1 [0,1,2,3,4,32,34,35,40,46,56] rfl ?_;refine G.ret func54 rfl rfl ?_;exact⟨_,rfl,by unfold cY;rw[if_neg c0,if_neg c1,if_neg c2,if_pos (.inr (.inl c7))];rfl,by rw[hh3];exact e1⟩
             · refine G.bT func54 rfl ?_;refine aQ 2 [0,1,2,3,4,32,34,35,40,46,56] rfl ?_;refine aL rfl rfl (fun c8=>?_) (fun c8=>?_)
               · refine xr func54 rfl ?_;refine xp rfl (af (off:=1) underlying39 rfl rfl H.dA rfl) ?_;refine xp rfl (ah H.dO rfl (k1.cell (i:=1) rfl)) ?_;refine xo rfl (aq (vs:=[_]) func101 rfl H.FL rfl (ai.bw (mO (hg.ax e1).lx t ht))) ?_;rintro _ h3 ⟨rfl,hh3⟩;refine aQ 1 [0,1,2,3,4,32,34,35,40,46,56] rfl ?_;refine G.ret func54 rfl rfl ?_;exact⟨_,rfl,by unfold cY;rw[if_neg c0,if_neg c1,if_neg c2,if_pos (.inr (.inr c8))];rfl,by rw[hh3];exact e1⟩
               · refine aW func54 2 [0,1,2,3,4,32,34,35,40,46,56,63] rfl ?_;refine aL rfl rfl (fun c4=>?_) (fun c4=>?_)
                 · obtain⟨uv,hu1,hu2⟩:=(hg.ax e1).una;refine xr func54 rfl ?_;refine xp rfl (ah H.HJ rfl hu1) ?_;refine xp rfl (af (off:=1) underlying39 rfl rfl H.dA rfl) ?_;refine xp rfl (ah H.dO rfl (k1.cell (i:=1) rfl)) ?_;refine xo rfl (aq (vs:=[_,_]) func49 rfl H.I2 rfl (ai.bw (oP hu2 t))) ?_;rintro _ h3 ⟨rfl,hh3⟩;refine aQ 1 [0,1,2,3,4,32,34,35,40,46,56,63] rfl ?_;refine G.ret func54 rfl rfl ?_;exact⟨_,rfl,by unfold cY;rw[if_neg c0,if_neg c1,if_neg c2,if_neg (by omega),if_pos c4];rfl,by rw[hh3];exact e1⟩
                 · refine aW func54 2 [0,1,2,3,4,32,34,35,40,46,56,63,69] rfl ?_;refine aL rfl rfl (fun c5=>?_) (fun c5=>?_)
                   · obtain⟨uv,hu1,hu2⟩:=(hg.ax e1).bin;refine xr func54 rfl ?_;refine xp rfl (ah H.HJ rfl hu1) ?_;refine xp rfl (af (off:=1) underlying39 rfl rfl H.dA rfl) ?_;refine xp rfl (ah H.dO rfl (k1.cell (i:=1) rfl)) ?_;refine xo rfl (aq (vs:=[_,_]) func49 rfl H.I2 rfl (ai.bw (oP hu2 t))) ?_;rintro _ h3 ⟨rfl,hh3⟩;refine aQ 1 [0,1,2,3,4,32,34,35,40,46,56,63,69] rfl ?_;refine G.ret func54 rfl rfl ?_;exact⟨_,rfl,by unfold cY;rw[if_neg c0,if_neg c1,if_neg c2,if_neg (by omega),if_neg c4,if_pos c5];rfl,by rw[hh3];exact e1⟩
                   · refine aE rfl ?_;refine G.aN ?_;refine xr func54 rfl ?_;refine xp rfl (af (off:=1) underlying39 rfl rfl H.dA rfl) ?_;refine xp rfl (ah H.dO rfl (k1.cell (i:=1) rfl)) ?_;refine xp rfl (aj.cI rfl rfl) ?_;refine aQ 1 [0,1,2,3,4,32,34,35,40,46,56,63,69] rfl ?_;refine G.ret func54 rfl rfl ?_;exact⟨_,rfl,by unfold cY;rw[if_neg c0,if_neg c1,if_neg c2,if_neg (by omega),if_neg c4,if_neg c5];show Value.bool _=_;rw[←jV],e1⟩
def alone (x:Tr):Bool:=decide (x.kind≠7) ||decide (x.kids.length=2)
def sV (k:Int) (i:Nat) (x:Tr):Bool:=decide (k≠6) ||(decide (i=0) ||(decide (x.kind=10) ||(decide (i≠1) && decide (x.kind=6))))
theorem uM (k:Int) (i:Nat) (x:Tr):F2 k i x=((decide (k=10) ||alone x) && sV k i x):=by cases x;rfl
theorem F7 (k:Int) (i:Nat) (x:Tr):(!sV k i x)=decide (k=6∧0<i∧x.kind≠10∧(i=1∨x.kind≠6)):=by
 unfold sV;rw[Bool.eq_iff_iff,Bool.not_eq_true',Bool.eq_false_iff];simp only[ne_eq,Bool.or_eq_true,Bool.and_eq_true,decide_eq_true_eq];omega
def IN (x:Tr):Prop:=∀(h:aD) (O:Nat→Prop) (v:Value),Dq h→dS h O v x→ai Tryz.prog 32 #[v] h (cL fun r h'=>r= .bool (cO bX x)∧aF h h')
theorem zI (hs:IN x) (hg:Dq h) (hv:dS h O v x):ai Tryz.prog 55 #[v] h (cL fun r h'=>r= .bool (cO bX x && alone x)∧aF h h'):=by
 cases x with
 |mk k t l =>
  obtain⟨w,rfl,hw⟩:=id hv.open;obtain⟨a,n,c,rfl,hws⟩:=id hw.open;have hn:l.length=n:=hws.len;refine ai.of func55 rfl rfl ?_;refine xr func55 rfl ?_;refine xo rfl (aC.fe rfl) ?_;rintro _ h1 ⟨rfl,k1,e1,z1⟩;have k1:bq h1 h.size 39 (iJ k t a n c):=k1;have hcall:=hs h1 O _ (hg.ax e1) (hv.mv (Mv.ax e1));refine aQ 1 [0,1,2] rfl ?_;refine av rfl ?_;refine G.mH (fun(u:Unit) (h':aD)=>aF h1 h') (fun(u:Unit)=>[(2,.bool (cO bX (.mk k t l) && alone (.mk k t l)))]) [(0,_),(1,_)] ⟨rfl,rfl,trivial⟩ func55 rfl ?_ ?_
  · refine xp rfl (aj.aG H.bN H.aV rfl k1.row (by first|rfl|(simp;done)|(simp;omega))) ?_;refine xo rfl (aq (vs:=[_]) func32 rfl H.I4 rfl (ai.bw (hcall))) ?_;rintro _ h2 ⟨rfl,e2⟩;refine aT 1 rfl ?_;refine aH (d:=5) rfl (fun a=>?_) (fun a=>?_)
    · refine xp rfl (af (off:=0) underlying39 rfl rfl H.bY rfl) ?_;refine xp rfl (ah H.cG rfl ((k1.ax e2).cell (i:=0) rfl)) ?_;refine aT 2 rfl ?_;refine aH (d:=9) rfl (fun b=>?_) (fun b=>?_)
      · have b:¬k=7:=by simpa using b
        refine aT 7 rfl ?_;refine az rfl ?_;exact⟨(),e2,aA rfl (by rw[a];unfold alone;rw[decide_eq_true (show Tr.kind (.mk k t l)≠7 from b)];rfl),rfl,rfl,trivial⟩
      · have b:k=7:=by simpa using b
        refine xp rfl (af (off:=2) underlying39 rfl rfl H.fE rfl) ?_;refine xp rfl (ah H.kN rfl ((k1.ax e2).cell (i:=2) rfl)) ?_;refine xp rfl (aj.aJ underlying28 rfl) ?_;refine aT 4 rfl ?_;refine az rfl ?_;exact⟨(),e2,aA rfl (by rw[a,Bool.true_and];unfold alone;rw[decide_eq_false (show ¬Tr.kind (.mk k t l)≠7 from fun q=>q b),Bool.false_or,←hn,decide_eq_decide];show _↔l.length=2;omega),rfl,rfl,trivial⟩
    · refine aT 11 rfl ?_;refine az rfl ?_;exact⟨(),e2,aA rfl (by rw[a];rfl),rfl,rfl,trivial⟩
  · rintro u h2 e2;refine G.ret func55 rfl rfl ?_;exact⟨_,rfl,rfl,e1.trans e2⟩
theorem mu (word:By→Bool) (k:Int) (i:Nat) (x:Tr) (l:List Tr):iy word k i (x::l)=((cO word x && F2 k i x) && iy word k (i+1) l):=by rw[iy]
theorem gK (word:By→Bool) (k:Int) (t:By) (l:List Tr):cO word (.mk k t l)=(oF word k t l.length && iy word k 0 l):=by rw[cO]
theorem BM:∀(d:Nat) (x:Tr),x.dep≤d→x.wt≤1000000→IN x:=by
 intro d
 induction d with
 |zero=>intro x hx;cases x with|mk k t l=>simp[Tr.dep] at hx
 |succ d ih =>
 intro x hd hwt h O v hg hv;cases x with
 |mk k t l =>
  obtain⟨w,rfl,hw⟩:=id hv.open;obtain⟨a,n,c,rfl,hws⟩:=id hw.open;have hn:l.length=n:=hws.len;subst hn;have hcap:=hws.cap;have hle:=hws.le;simp only[maxLen] at hcap;have htl:=tj k t l;rw[gK];refine ai.of func32 rfl rfl ?_;refine xr func32 rfl ?_;refine xo rfl (aC.fe rfl) ?_;rintro _ h1 ⟨rfl,k1,e1,z1⟩;have k1:bq h1 h.size 39 (iJ k t a l.length c):=k1;refine aQ 1 [0,1,2] rfl ?_;refine av rfl ?_;refine xr func32 rfl ?_;refine xp rfl (aj.aG H.bN H.aV rfl k1.row (by first|rfl|(simp;done)|(simp;omega))) ?_;refine xo rfl (aq (vs:=[_]) func54 rfl H.LS rfl (ai.bw (Ac (hg.ax e1) k t a l.length c (by omega)))) ?_;rintro _ h2 ⟨rfl,e2⟩;have e02:=e1.trans e2;have k2:=k1.ax e2;refine aQ 1 [0,1,2,7] rfl ?_;refine aI rfl rfl (fun hs=>?_) (fun hs=>?_)
  · have hs:oF bX k t l.length=false:=by simpa using hs
    refine aW func32 1 [0,1,2,7] rfl ?_;refine G.ret func32 rfl rfl ?_;exact⟨_,rfl,by rw[hs];rfl,e02⟩
  · have hs:oF bX k t l.length=true:=by simpa using hs
    rw[hs,Bool.true_and];refine aE rfl ?_;refine av rfl ?_;refine xr func32 rfl ?_;refine xp rfl (af (off:=2) underlying39 rfl rfl H.fE rfl) ?_;refine xp rfl (ah H.kN rfl (k2.cell (i:=2) rfl)) ?_;refine xp rfl (aj.aJ underlying28 rfl) ?_;refine aQ 1 [0,1,2,7,9,10,11] rfl ?_;refine G.block rfl rfl ?_;refine bE (σ:=Nat) (fun i=>[(1,ptr h.size),(9,.slice a l.length c),(10,.int .i64 (l.length:Nat)),(11,.int .i64 (i:Nat))]) (fun i g=>i≤l.length∧aF h2 g∧iy bX k i (l.drop i)=iy bX k 0 l) (fun i=>l.length-i) (0) rfl ⟨rfl,rfl,rfl,rfl,trivial⟩ ⟨Nat.zero_le _,Ext.refl _ _,rfl⟩ ?_;rintro i g ⟨hi,eg,hq⟩ ihL;have kg:=k2.ax eg;have e0g:=e02.trans eg;refine aW func32 1 [1,9,10,11,12] rfl ?_;refine av rfl ?_;refine aL rfl rfl (fun hlt=>?_) (fun hlt=>?_)
    · have hil:i<l.length:=by omega
      have hwsg:=hws.mv (Mv.ax e0g);obtain⟨b,o,x,cs,ha,hob,hx,hrow,hR⟩:=Sl.nd hwsg hil;have hxm:x∈l:=List.mem_of_getElem? hx;have hxw:=jJ (k:=k) (t:=t) hxm
      have hdr:l.drop i=x::l.drop (i+1):=by
       obtain⟨h1,h2⟩:=List.getElem?_eq_some_iff.1 hx;rw[List.drop_eq_getElem_cons h1,h2]
      rw[hdr,mu,uM] at hq;obtain⟨xk,xt,xa,xn,xc,hcs,hR'⟩:=(dS.of hR).get;obtain rfl:cs=[.int .i64 xk,.string (bs xt),.slice xa xn xc]:=by have:=congrArg (fun v=>match v with|Value.agg cs=>cs.toList|_=>[]) hcs;simpa using this
      have hxk:xk=x.kind:=by cases x with|mk k' t' l'=>obtain⟨v',hv1,_⟩:=jG hR;cases hv1;rfl
      have hst:=ih x (by have:=lJ (k:=k) (t:=t) hxm;omega) (by omega);refine aE rfl ?_;refine av rfl ?_;refine G.block rfl rfl ?_;refine br func32 1 rfl ?_;refine xp rfl (aj.ay underlying28 H.aV rfl rfl i rfl ha (by omega)) ?_;refine xp rfl (aj.aG H.bN H.aV rfl hrow (by first|rfl|(simp;done)|(simp;omega))) ?_;refine xo rfl (aC.aR H.eG) ?_;rintro _ g1 ⟨rfl,kn,e3,z3⟩;refine aT 1 rfl ?_;refine RW.bZ rfl rfl rfl (aC.aB H.aV rfl rfl kn (by first|rfl|(simp;done)|(simp;omega)) (by first|decide|exact of_decide_eq_true rfl|(simp;done)|(simp;omega)) (eT)) ?_;rintro _ g2 ⟨rfl,kx,x2,z2⟩;have kx:bq g2 g.size 39 [.int .i64 xk,.string (bs xt),.slice xa xn xc]:=kx;have eg2:aF g g2:=aF.only e3 x2 (Nat.le_refl _);have kg2:=kg.ax eg2;have hg2:=hg.ax (e0g.trans eg2);have hnx:=(dS.of hR).mv (Mv.ax eg2);have hcs:=hst g2 O _ hg2 hnx;have hcv:=zI hst hg2 hnx;refine xd [1,3,4,9,10,11,12] rfl ?_;refine av rfl ?_;refine av rfl ?_;refine G.mH (fun(u:Unit) (h':aD)=>aF g2 h') (fun(u:Unit)=>[(33,.bool (!(cO bX x && (decide (k=10) ||alone x))))]) [(1,_),(3,_),(4,_),(9,_),(10,_),(11,_),(12,_)] ⟨rfl,rfl,rfl,rfl,rfl,rfl,rfl,trivial⟩ func32 rfl ?_ ?_
      · refine xp rfl (af (off:=0) underlying39 rfl rfl H.bY rfl) ?_;refine xp rfl (ah H.cG rfl (kg2.cell (i:=0) rfl)) ?_;refine aT 2 rfl ?_;refine aH (d:=19) rfl (fun p=>?_) (fun p=>?_)
        · have p:=of_decide_eq_true p;refine xp rfl (aj.aG H.bN H.aV rfl kx.row (by first|rfl|(simp;done)|(simp;omega))) ?_;refine xo rfl (aq (vs:=[_]) func32 rfl H.I4 rfl (ai.bw (hcs))) ?_;rintro _ g3 ⟨rfl,e4⟩;refine aT 3 rfl ?_;refine aH (d:=24) rfl (fun q=>?_) (fun q=>?_)
          · refine aT 9 rfl ?_;refine az rfl ?_;exact⟨(),e4,aA rfl (by have q:cO bX x=false:=by { simpa using q };rw[q];rfl),rfl,rfl,rfl,rfl,rfl,rfl,rfl,trivial⟩
          · have q:cO bX x=true:=by simpa using q
            refine xp rfl (af (off:=0) underlying39 rfl rfl H.bY rfl) ?_;refine xp rfl (ah H.cG rfl ((kg2.ax e4).cell (i:=0) rfl)) ?_;refine aT 2 rfl ?_;refine RW.cW (d:=28) (b':=false) rfl ((by rw[p];rfl)) ?_;refine aT 5 rfl ?_;refine az rfl ?_;exact⟨(),e4,aA rfl (by rw[q,decide_eq_true p];rfl),rfl,rfl,rfl,rfl,rfl,rfl,rfl,trivial⟩
        · have p:=of_decide_eq_false p;refine bP 5 rfl rfl (af (off:=0) underlying39 rfl rfl H.bY rfl) ?_;refine RW.cW (d:=24) (b':=false) rfl (rfl) ?_;refine xp rfl (ah H.cG rfl (kg2.cell (i:=0) rfl)) ?_;refine aT 2 rfl ?_;refine RW.cW (d:=28) (b':=true) rfl ((by simpa using p)) ?_;refine xp rfl (aj.aG H.bN H.aV rfl kx.row (by first|rfl|(simp;done)|(simp;omega))) ?_;refine xo rfl (aq (vs:=[_]) func55 rfl H.LR rfl (ai.bw (hcv))) ?_;rintro _ g3 ⟨rfl,e4⟩;refine aT 3 rfl ?_;refine az rfl ?_;exact⟨(),e4,aA rfl (by rw[decide_eq_false p,Bool.false_or]),rfl,rfl,rfl,rfl,rfl,rfl,rfl,trivial⟩
      · rintro u g3 e4;have kg3:=kg2.ax e4;have kx3:=kx.ax e4;refine aI rfl rfl (fun hb=>?_) (fun hb=>?_)
        · have hb:(cO bX x && (decide (k=10) ||alone x))=false:=by rw[Bool.not_eq_true'] at hb;exact hb
          refine aW func32 1 [1,2,3,4,9,10,11,12,33] rfl ?_;refine G.ret func32 rfl rfl ?_;refine⟨_,rfl,?_,(e0g.trans eg2).trans e4⟩;rw[←hq,←Bool.and_assoc,hb];rfl
        · have hb:(cO bX x && (decide (k=10) ||alone x))=true:=by rw[Bool.not_eq_false'] at hb;exact hb
          rw[←Bool.and_assoc,hb,Bool.true_and] at hq;refine aE rfl ?_;refine av rfl ?_;refine G.bD [(54,.bool (decide (k=6∧0<i∧xk≠10∧(i=1∨xk≠6))))] [(1,_),(3,_),(4,_),(9,_),(10,_),(11,_),(12,_),(33,_)] ⟨rfl,rfl,rfl,rfl,rfl,rfl,rfl,rfl,trivial⟩ func32 rfl ?_ ?_
          · refine xp rfl (af (off:=0) underlying39 rfl rfl H.bY rfl) ?_;refine xp rfl (ah H.cG rfl (kg3.cell (i:=0) rfl)) ?_;refine aT 2 rfl ?_;refine aH (d:=37) rfl (fun p=>?_) (fun p=>?_)
            · have p:=of_decide_eq_true p;refine aT 4 rfl ?_;refine aH (d:=41) rfl (fun q=>?_) (fun q=>?_)
              · have q:=of_decide_eq_true q;refine xp rfl (af (off:=0) underlying39 rfl rfl H.bY rfl) ?_;refine xp rfl (ah H.cG rfl (kx3.cell (i:=0) rfl)) ?_;refine aT 3 rfl ?_;refine aH (d:=46) rfl (fun r=>?_) (fun r=>?_)
                · have r:¬xk=10:=by simpa using r
                  refine aT 3 rfl ?_;refine aH (d:=49) rfl (fun s=>?_) (fun s=>?_)
                  · have s:=of_decide_eq_true s;refine aT 5 rfl ?_;refine az rfl ?_;exact⟨rfl,aA rfl (by rw[decide_eq_true (by omega)]),rfl,rfl,rfl,rfl,rfl,rfl,rfl,rfl,trivial⟩
                  · have s:=of_decide_eq_false s;refine xp rfl (af (off:=0) underlying39 rfl rfl H.bY rfl) ?_;refine xp rfl (ah H.cG rfl (kx3.cell (i:=0) rfl)) ?_;refine aT 3 rfl ?_;refine az rfl ?_;exact⟨rfl,aA rfl (by rw[decide_eq_decide];omega),rfl,rfl,rfl,rfl,rfl,rfl,rfl,rfl,trivial⟩
                · have r:xk=10:=by simpa using r
                  refine aT 8 rfl ?_;refine az rfl ?_;exact⟨rfl,aA rfl (by rw[decide_eq_false (by omega)]),rfl,rfl,rfl,rfl,rfl,rfl,rfl,rfl,trivial⟩
              · have q:=of_decide_eq_false q;refine aT 13 rfl ?_;refine az rfl ?_;exact⟨rfl,aA rfl (by rw[decide_eq_false (by omega)]),rfl,rfl,rfl,rfl,rfl,rfl,rfl,rfl,trivial⟩
            · have p:=of_decide_eq_false p;refine aT 17 rfl ?_;refine az rfl ?_;exact⟨rfl,aA rfl (by rw[decide_eq_false (by omega)]),rfl,rfl,rfl,rfl,rfl,rfl,rfl,rfl,trivial⟩
          · rw[hxk,←F7];refine aI rfl rfl (fun hb2=>?_) (fun hb2=>?_)
            · have hb2:sV k i x=false:=by simpa using hb2
              refine aW func32 1 [1,2,3,4,9,10,11,12,33,54] rfl ?_;refine G.ret func32 rfl rfl ?_;exact⟨_,rfl,by rw[←hq,hb2];rfl,(e0g.trans eg2).trans e4⟩
            · have hb2:sV k i x=true:=by simpa using hb2
              rw[hb2,Bool.true_and] at hq;refine aE rfl ?_;refine G.aN ?_;refine G.bT func32 rfl ?_;refine xp rfl (aj.bA rfl rfl ⟨by omega,by omega⟩) ?_;refine aQ 1 [1,3,4,9,10,11,12,33,54] rfl ?_;exact ihL (i+1) _ _ ⟨rfl,rfl,rfl,rfl,trivial⟩ ⟨hil,(eg.trans eg2).trans e4,hq⟩ (by omega)
    · obtain rfl:i=l.length:=by omega
      rw[List.drop_length] at hq;refine bz rfl rfl ?_;refine aW func32 1 [1,2,9,10,11,12] rfl ?_;refine G.ret func32 rfl rfl ?_;exact⟨_,rfl,by rw[←hq];rfl,e0g⟩
theorem rS (hw:x.wt≤1000000) (hg:Dq h) (hv:dS h O v x):ai Tryz.prog 14 #[v] h (cL fun r h'=>r= .bool (cO bX x)∧aF h h'):=by
 obtain⟨k,t,a,n,c,rfl,hR⟩:=id hv.get;refine ai.of func14 rfl rfl ?_;refine xr func14 rfl ?_;refine xo rfl (aC.fe rfl) ?_;rintro _ h1 ⟨rfl,k1,e1,z1⟩;have hcall:=BM _ x (Nat.le_refl _) hw h1 O _ (hg.ax e1) (hv.mv (Mv.ax e1));refine aQ 1 [0,1,2] rfl ?_;refine xr func14 rfl ?_;refine xp rfl (aj.aG H.bN H.aV rfl k1.row (by first|rfl|(simp;done)|(simp;omega))) ?_;refine xo rfl (aq (vs:=[_]) func32 rfl H.I4 rfl (ai.bw (hcall))) ?_;rintro _ h2 ⟨rfl,e2⟩;refine aQ 1 [0,1,2] rfl ?_;refine G.ret func14 rfl rfl ?_;exact⟨_,rfl,rfl,e1.trans e2⟩
theorem gy {a:Option Addr}{n c:Nat}(hws:Sl eN h O a n c l){i:Nat}(hi:i<n) :
 ∃b o x xk xt xa xn xc,a=some ⟨b,o,none⟩∧l[i]? =some x∧Lw.rowAt h b (o+i*3) (iJ xk xt xa xn xc)∧dS h O (.agg #[.int .i64 xk,.string (bs xt),.slice xa xn xc]) x∧xk=x.kind∧¬O b:=by
 obtain⟨b,o,x,cs,ha,hob,hx,hrow,hR⟩:=Sl.nd hws hi;cases x with
 |mk k t m =>
  obtain⟨v,rfl,hs⟩:=jG hR;obtain⟨xa,xn,xc,rfl,_⟩:=id hs.open;exact⟨b,o,_,k,t,xa,xn,xc,ha,hx,hrow,dS.of hR,rfl,hob⟩
theorem qN {word:By→Bool}{k:Int}:∀{l:List Tr}{i:Nat}{x:Tr},iy word k i l=true→x∈l→cO word x=true
 | [],_,_,_,h=>by cases h
 |y::l,i,x,q,h=>by
  rw[mu,Bool.and_eq_true,Bool.and_eq_true] at q
  rcases List.mem_cons.1 h with rfl|h
  · exact q.1.1
  · exact qN q.2 h
theorem kr:∀(l:List Tr) (i:Nat),eJ false i l=l.map (bl false)
 | [],_=>by rw[eJ];rfl
 |x::l,i=>by rw[eJ,kr l,Bool.false_and];rfl
theorem tR (b:Bool) (k:Int) (t:By) (l:List Tr):bl b (.mk k t l)=if k=6∧b=true then sH (eJ (decide (k=6)) 0 l) else rV k t (eJ (decide (k=6)) 0 l):=by rw[bl]
theorem ef {k:Int}(h:k≠6) (b:Bool) (t:By) (l:List Tr):bl b (.mk k t l)=rV k t (l.map (bl false)):=by
 rw[tR,if_neg (fun q=>h q.1),decide_eq_false h,kr]
theorem BQ (h:x.kind≠6) (b:Bool):bl b x=bl false x:=by
 cases x with
 |mk k t l=>have h:k≠6:=h;rw[ef h,ef h]
theorem CP (t:By) (a b c:Tr):bl false (.mk 6 t [a,b,c])=[40]++sH [bl false a,bl false b,bl true c]++[41]:=by
 rw[tR,if_neg (fun q=>by cases q.2)];simp[eJ,rV]
theorem tS (t:By) (a b c:Tr):bl true (.mk 6 t [a,b,c])=sH [bl false a,bl false b,bl true c]:=by
 rw[tR,if_pos ⟨rfl,rfl⟩];simp[eJ]
def vJ (x:Tr):Prop:=∀(h:aD) (O:Nat→Prop) (v:Value),Dq h→dS h O v x→ai Tryz.prog 35 #[v] h (cL fun r h'=>r= .string (bs (bl false x))∧aF h h')
def xO (x:Tr):Prop:=∀(h:aD) (O:Nat→Prop) (v:Value),Dq h→dS h O v x→ai Tryz.prog 59 #[v] h (cL fun r h'=>r= .string (bs (bl true x))∧aF h h')
theorem Ev {t:By}{y z:Tr}(hw:(Tr.mk 6 t [x,y,z]).wt≤1000000) (hx:vJ x) (hy:vJ y) (hz:vJ z) (hz2:z.kind=6→xO z):xO (.mk 6 t [x,y,z]):=by
 intro h O v hg hv;have w1:=jJ (k:=6) (t:=t) (l:=[x,y,z]) (x:=x) (by simp);have w2:=jJ (k:=6) (t:=t) (l:=[x,y,z]) (x:=y) (by simp);have w3:=jJ (k:=6) (t:=t) (l:=[x,y,z]) (x:=z) (by simp);have p1:=ig x false;have p2:=ig y false;have p3:=ig z false;have p4:=ig z true;have q1:=bp (bl false x);have q2:=bp (bl false y);have q3:=bp (bl false z);have q4:=bp (bl true z);obtain⟨w,rfl,hw0⟩:=id hv.open;obtain⟨a,n,c,rfl,hws⟩:=id hw0.open;have hn:3=n:=hws.len;subst hn;rw[tS];refine ai.of func59 rfl rfl ?_;refine xr func59 rfl ?_;refine xo rfl (aC.fe rfl) ?_;rintro _ h1 ⟨rfl,k1,e1,z1⟩;have k1:bq h1 h.size 39 (iJ 6 t a 3 c):=k1;have hws1:=hws.mv (Mv.ax e1);obtain⟨b0,o0,x0,k0,t0,a0,n0,c0,ha0,hx0,hr0,hv0,_,_⟩:=gy hws1 (show 0<3 by decide);obtain⟨b0',o1,x1,kk1,t1,a1,n1,c1,ha1,hx1,hr1,hv1,_,_⟩:=gy hws1 (show 1<3 by decide);obtain rfl:x0=x:=by cases hx0;rfl
 obtain rfl:x1=y:=by cases hx1;rfl
 have hc0:=hx h1 O _ (hg.ax e1) hv0;refine aQ 1 [0,1,2] rfl ?_;refine av rfl ?_;refine bV (fun _=>False) (fun i=>Nat.blt i 15) (sz:=15) (listed:= #[false,false,false,false,false,false,false,false,false,false,false,false,false,false,false]) func59 H.mixed rfl rfl rfl ?_;refine bI 0 1 (by kernel_rfl) rfl (fun h' e=>af (off:=2) underlying39 rfl rfl H.fE rfl) ?_;refine bI 1 3 (by kernel_rfl) rfl (fun h' e=>ah H.kN rfl (e.cell (fun k=>k) (k1.cell (i:=2) rfl))) ?_;refine bI 2 7 (by kernel_rfl) rfl (fun h' e=>aj.ay underlying28 H.aV rfl rfl 0 rfl ha0 (by decide)) ?_;refine bI 3 15 (by kernel_rfl) rfl (fun h' e=>aj.aG H.bN H.aV rfl (e.rowAt (fun k=>k) hr0) (by first|rfl|(simp;done)|(simp;omega))) ?_;refine bI 7 143 (by kernel_rfl) rfl (fun h' e=>af (off:=2) underlying39 rfl rfl H.fE rfl) ?_;refine bI 8 399 (by kernel_rfl) rfl (fun h' e=>ah H.kN rfl (e.cell (fun k=>k) (k1.cell (i:=2) rfl))) ?_;refine bI 9 911 (by kernel_rfl) rfl (fun h' e=>aj.ay underlying28 H.aV rfl rfl 1 rfl ha1 (by decide)) ?_;refine bI 10 1935 (by kernel_rfl) rfl (fun h' e=>aj.aG H.bN H.aV rfl (e.rowAt (fun k=>k) hr1) (by first|rfl|(simp;done)|(simp;omega))) ?_;refine cU 4 1951 (by kernel_rfl) rfl (aq (vs:=[_]) func35 rfl H.FC rfl (ai.bw (hc0))) ?_;rintro _ h2 ⟨rfl,e2⟩;refine⟨fun _=>e2,?_⟩;have l3:(⟨#[105,102,32]⟩:ByteArray).size=3:=rfl;have l1:(⟨#[32]⟩:ByteArray).size=1:=rfl;have l6:(⟨#[32,101,108,115,101,32]⟩:ByteArray).size=6:=rfl;have hc1:=hy h2 O _ ((hg.ax e1).ax e2) (hv1.mv (Mv.ax e2));refine bI 5 1983 (by kernel_rfl) rfl (fun h' e=>aj.bf rfl rfl (by simp only[ByteArray.size_append,l3,l1,l6,q1,q2,q3,q4];omega)) ?_;refine bI 6 2047 (by kernel_rfl) rfl (fun h' e=>aj.bf rfl rfl (by simp only[ByteArray.size_append,l3,l1,l6,q1,q2,q3,q4];omega)) ?_;refine cU 11 4095 (by kernel_rfl) rfl (aq (vs:=[_]) func35 rfl H.FC rfl (ai.bw (hc1))) ?_;rintro _ h3 ⟨rfl,e3⟩;refine⟨fun _=>e3,?_⟩;refine bI 12 8191 (by kernel_rfl) rfl (fun h' e=>aj.bf rfl rfl (by simp only[ByteArray.size_append,l3,l1,l6,q1,q2,q3,q4];omega)) ?_;refine bI 13 16383 (by kernel_rfl) rfl (fun h' e=>aj.bf rfl rfl (by simp only[ByteArray.size_append,l3,l1,l6,q1,q2,q3,q4];omega)) ?_;have e23:=e2.trans e3;have e03:=e1.trans e23;have k3:=k1.ax e23;have hws3:=hws1.mv (Mv.ax e23);obtain⟨b2',o2,x2,kk2,t2,a2,n2,c2,ha2,hx2,hr2,hv2,hk2,_⟩:=gy hws3 (show 2<3 by decide);obtain rfl:x2=z:=by cases hx2;rfl
 have hg3:=hg.ax e03;refine b9 14 32767 (by kernel_rfl) rfl ?_;refine bg (by kernel_rfl) ?_;refine xu [0,1,2,3] rfl ?_;refine av rfl ?_;refine xr func59 rfl ?_;refine xp rfl (af (off:=2) underlying39 rfl rfl H.fE rfl) ?_;refine xp rfl (ah H.kN rfl (k3.cell (i:=2) rfl)) ?_;refine xp rfl (aj.ay underlying28 H.aV rfl rfl 2 rfl ha2 (by decide)) ?_;refine xp rfl (af (off:=0) underlying39 rfl rfl H.bY rfl) ?_;refine xp rfl (ah H.cG rfl (hr2 0 _ rfl)) ?_;refine aQ 1 [0,1,2,3,23] rfl ?_;refine aL rfl rfl (fun c6=>?_) (fun c6=>?_)
 · have hch:=hz2 (by rw[←hk2];exact c6) h3 O _ hg3 hv2;refine br func59 1 rfl ?_;refine xp rfl (af (off:=2) underlying39 rfl rfl H.fE rfl) ?_;refine xp rfl (ah H.kN rfl (k3.cell (i:=2) rfl)) ?_;refine xp rfl (aj.ay underlying28 H.aV rfl rfl 2 rfl ha2 (by decide)) ?_;refine xp rfl (aj.aG H.bN H.aV rfl hr2 (by first|rfl|(simp;done)|(simp;omega))) ?_;refine xo rfl (aq (vs:=[_]) func59 rfl H.J0 rfl (ai.bw (hch))) ?_;rintro _ h4 ⟨rfl,e4⟩;refine xp rfl (aj.bf rfl rfl (by simp only[ByteArray.size_append,l3,l1,l6,q1,q2,q3,q4];omega)) ?_;refine aQ 1 [0,1,2,3,23] rfl ?_;refine G.ret func59 rfl rfl ?_;refine⟨_,rfl,?_,e03.trans e4⟩
   show Value.string (((((bs [105,102,32]++bs (bl false x0))++bs [32])++bs (bl false x1))++bs [32,101,108,115,101,32])++bs (bl true x2))=_
   simp only[bB];rfl
 · have hch:=hz h3 O _ hg3 hv2;refine aE rfl ?_;refine br func59 1 rfl ?_;refine xp rfl (af (off:=2) underlying39 rfl rfl H.fE rfl) ?_;refine xp rfl (ah H.kN rfl (k3.cell (i:=2) rfl)) ?_;refine xp rfl (aj.ay underlying28 H.aV rfl rfl 2 rfl ha2 (by decide)) ?_;refine xp rfl (aj.aG H.bN H.aV rfl hr2 (by first|rfl|(simp;done)|(simp;omega))) ?_;refine xo rfl (aq (vs:=[_]) func35 rfl H.FC rfl (ai.bw (hch))) ?_;rintro _ h4 ⟨rfl,e4⟩;refine xp rfl (aj.bf rfl rfl (by simp only[ByteArray.size_append,l3,l1,l6,q1,q2,q3,q4];omega)) ?_;refine aQ 1 [0,1,2,3,23] rfl ?_;refine G.ret func59 rfl rfl ?_;refine⟨_,rfl,?_,e03.trans e4⟩;rw[BQ (show x2.kind≠6 from fun q=>c6 (by rw[hk2];exact q)) true]
   show Value.string (((((bs [105,102,32]++bs (bl false x0))++bs [32])++bs (bl false x1))++bs [32,101,108,115,101,32])++bs (bl false x2))=_
   simp only[bB];rfl
theorem dQ {enc:α→Value}{base:Nat}{T:TypeId}{va:Option Addr}{vn vc:Nat}{xs:List α}(k:cK enc h base T (.slice va vn vc) xs) (i:Nat){x:α}(hx:xs[i]? =some x) :
 ∃g,va=some ⟨g,0,none⟩∧i<vn∧vn=xs.length∧cellAt h ⟨g,0+i*1,none⟩=some (enc x):=by
 obtain⟨g,c,hv,_,_,hc,_⟩:=k.at hx;cases hv;exact⟨g,rfl,(List.getElem?_eq_some_iff.1 hx).1,rfl,hc⟩
theorem Eb {l:List α}(h:l.length=1):∃a,l=[a]:=List.length_eq_one_iff.1 h
theorem Ea {l:List α}(h:l.length=2):∃a b,l=[a,b]:=by
 match l,h with
 | [a,b],_=>exact⟨a,b,rfl⟩
theorem FU {l:List α}(h:l.length=3):∃a b c,l=[a,b,c]:=by
 match l,h with
 | [a,b,c],_=>exact⟨a,b,c,rfl⟩
theorem G3 {k:Int}{t:By}(hw:(Tr.mk k t l).wt≤1000000) (hva:cO bX (.mk k t l)=true) (hsk:∀y∈l,vJ y) (hch:k=6→xO (.mk k t l)):vJ (.mk k t l):=by
 intro h O v hg hv;obtain⟨w,rfl,hw0⟩:=id hv.open;obtain⟨a,n,c,rfl,hws⟩:=id hw0.open;have hn:l.length=n:=hws.len;subst hn;have hcap:=hws.cap;have hle:=hws.le;simp only[maxLen] at hcap;have wt0:=tj k t l;have qt:=bp t
 have hkl:∀y∈l,(bs (bl false y)).size≤1000000:=fun y hy=>by
  have:=jJ (k:=k) (t:=t) hy;have:=ig y false;rw[bp];omega
 have hsum:(dP (l.map (bl false))).length≤1000000:=by
  have h1:=ql (eJ false 0 l);have h2:=iU l false 0;have h3:=gw l false 0;rw[←kr l 0];have h4:(Tr.mk k t l).wt=2*t.length+20+pH l:=by rw[Tr.wt]
  omega
 rw[gK,ku,Bool.and_eq_true,Bool.and_eq_true] at hva;obtain⟨⟨hbd,_⟩,hvq⟩:=hva;have hbd:(0≤k∧k≤10)∧(cz k).1≤l.length∧l.length≤(cz k).2:=of_decide_eq_true hbd
 have hll:l.length≤1000000:=by
  have h2:=iU l false 0;have h4:(Tr.mk k t l).wt=2*t.length+20+pH l:=by rw[Tr.wt]
  omega
 have m40:(⟨#[40]⟩:ByteArray).size=1:=rfl;have m41:(⟨#[41]⟩:ByteArray).size=1:=rfl;have m32:(⟨#[32]⟩:ByteArray).size=1:=rfl;have mlet:(⟨#[108,101,116,32]⟩:ByteArray).size=4:=rfl;have mlet2:(⟨#[40,108,101,116,32]⟩:ByteArray).size=5:=rfl;have meq:(⟨#[32,61,32]⟩:ByteArray).size=3:=rfl;have min_:(⟨#[32,105,110,32]⟩:ByteArray).size=4:=rfl;have mfun:(⟨#[40,102,117,110,32]⟩:ByteArray).size=5:=rfl;have marr:(⟨#[32,45,62,32]⟩:ByteArray).size=4:=rfl;have mopn:(⟨#[123,32]⟩:ByteArray).size=2:=rfl;have mcls:(⟨#[32,125]⟩:ByteArray).size=2:=rfl;refine ai.of func35 rfl rfl ?_;refine xr func35 rfl ?_;refine xo rfl (aC.fe rfl) ?_;rintro _ h1 ⟨rfl,k1,e1,z1⟩;have k1:bq h1 h.size 39 (iJ k t a l.length c):=k1;refine aQ 1 [0,1,2] rfl ?_;refine aW func35 1 [0,1,2,3] rfl ?_;refine av rfl ?_;refine xr func35 rfl ?_;refine xp rfl (af (off:=2) underlying39 rfl rfl H.fE rfl) ?_;refine xp rfl (ah H.kN rfl (k1.cell (i:=2) rfl)) ?_;refine xp rfl (aj.aJ underlying28 rfl) ?_;refine aQ 1 [0,1,2,3,7,8,9] rfl ?_;refine G.block rfl rfl ?_;refine bE (σ:=Nat×Value) (fun w=>[(1,ptr h.size),(3,w.2),(7,.slice a l.length c),(8,.int .i64 (l.length:Nat)),(9,.int .i64 (w.1:Nat))]) (fun w g=>w.1≤l.length∧aF h1 g∧cK lG g h1.size 9 w.2 ((l.map (bl false)).take w.1)) (fun w=>l.length-w.1) ((0,.slice none 0 0)) rfl ⟨rfl,rfl,rfl,rfl,rfl,trivial⟩ ⟨Nat.zero_le _,Ext.refl _ _,cK.nil _ _ _ _⟩ ?_;rintro⟨i,ov⟩ g ⟨hi,eg,ho⟩ ih
 try dsimp only
 dsimp only at hi ho;have kg:=k1.ax eg;have e0g:=e1.trans eg;have hho:aS g h1.size 9 1 ov ((l.map (bl false)).take i).length (((l.map (bl false)).take i).map lG):=ho;have hlt0:((l.map (bl false)).take i).length=i:=by rw[List.length_take,List.length_map];omega
 rw[hlt0] at hho;obtain⟨va,vc,rfl,_⟩:=hho.open;refine aW func35 1 [1,3,7,8,9,10] rfl ?_;refine av rfl ?_;refine aL rfl rfl (fun hlt=>?_) (fun hlt=>?_)
 · have hil:i<l.length:=by omega
   obtain⟨b,o,x,xk,xt,xa,xn,xc,ha,hx,hrow,hnx,_,_⟩:=gy (hws.mv (Mv.ax e0g)) hil;have hxm:x∈l:=List.mem_of_getElem? hx;refine aE rfl ?_;refine av rfl ?_;refine G.block rfl rfl ?_;refine xr func35 rfl ?_;refine xp rfl (aj.ay underlying28 H.aV rfl rfl i rfl ha (by omega)) ?_;refine xp rfl (aj.aG H.bN H.aV rfl hrow (by first|rfl|(simp;done)|(simp;omega))) ?_;refine xo rfl (aC.aR H.eG) ?_;rintro _ g1 ⟨rfl,kn,e3,z3⟩;refine RW.bZ rfl rfl rfl (aC.aB H.aV rfl rfl kn (by first|rfl|(simp;done)|(simp;omega)) (by first|decide|exact of_decide_eq_true rfl|(simp;done)|(simp;omega)) (eT)) ?_;rintro _ g2 ⟨rfl,kx,x2,z2⟩;have kx:bq g2 g.size 39 (iJ xk xt xa xn xc):=kx;have eg2:aF g g2:=aF.only e3 x2 (Nat.le_refl _);have hcall:=hsk x hxm g2 O _ (hg.ax (e0g.trans eg2)) (hnx.mv (Mv.ax eg2));refine xd [1,3,5,7,8,9,10] rfl ?_;refine G.bT func35 rfl ?_;refine bP 1 rfl rfl (aj.aG H.bN H.aV rfl kx.row (by first|rfl|(simp;done)|(simp;omega))) ?_;refine xo rfl (aq (vs:=[_]) func35 rfl H.FC rfl (ai.bw (hcall))) ?_;rintro _ g3 ⟨rfl,e4⟩;have e24:=eg2.trans e4;refine xo rfl (aC.aZ (us:=[_]) underlying93 H.nT rfl rfl (by decide) (by simp[Value.oneCell'])) ?_;rintro _ _ ⟨rfl,rfl⟩;refine xo rfl (aC.bO underlying93 H.nT rfl rfl ((hho.l7 e24)) rfl rfl (by first|decide|simp[Value.oneCell']) (by omega) (by decide) (by have:=eg.size;have:=e24.size;omega)) ?_;rintro v5 g5 ⟨ho5,hx5,hx5',hv5⟩
   have ho5:cK lG g5 h1.size 9 v5 ((l.map (bl false)).take (i+1)):=by
    rw[List.take_add_one,List.getElem?_map,hx];exact cK.of ho5 hlt0.symm rfl rfl
   refine aQ 1 [1,3,5,7,8,9,10] rfl ?_;refine G.aN ?_;refine G.bT func35 rfl ?_;refine xp rfl (aj.bA rfl rfl ⟨by omega,by omega⟩) ?_;refine aQ 1 [1,3,5,7,8,9,10] rfl ?_;exact ih (i+1,v5) _ _ ⟨rfl,rfl,rfl,rfl,rfl,trivial⟩ ⟨hil,Ext.own (eg.trans e24) (hho.l7 e24) (Nat.le_refl _) hx5,ho5⟩ (by show l.length-(i+1)<l.length-i;omega)
 · obtain rfl:i=l.length:=by omega
   rw[show (l.map (bl false)).take l.length=l.map (bl false) from List.take_of_length_le (by simp)] at ho;refine bz rfl rfl ?_;refine av rfl ?_;refine xr func35 rfl ?_;refine xp rfl (af (off:=0) underlying39 rfl rfl H.bY rfl) ?_;refine xp rfl (ah H.cG rfl (kg.cell (i:=0) rfl)) ?_;refine xd [1,3,7,8,9,10,20] rfl ?_;refine G.block rfl rfl ?_;refine aW func35 2 [1,3,7,8,9,10,20,21] rfl ?_;refine aL rfl rfl (fun c1=>?_) (fun c1=>?_)
   · refine xr func35 rfl ?_;refine xp rfl (af (off:=1) underlying39 rfl rfl H.dA rfl) ?_;refine xp rfl (ah H.dO rfl (kg.cell (i:=1) rfl)) ?_;refine xo rfl (aq (vs:=[_]) func58 rfl H.LP rfl (ai.bw (An (hg.ax e0g).esc t (by omega)))) ?_;rintro _ g2 ⟨rfl,e2⟩;refine aQ 1 [1,2,3,7,8,9,10,20,21] rfl ?_;refine G.ret func35 rfl rfl ?_;exact⟨_,rfl,by rw[ef (by omega),c1];rfl,e0g.trans e2⟩
   · refine aW func35 2 [1,3,7,8,9,10,20,21,26] rfl ?_;refine aL rfl rfl (fun c4=>?_) (fun c4=>?_)
     · subst c4;have hbd2:1≤l.length∧l.length≤1:=hbd.2;obtain⟨x0,rfl⟩:=Eb (show l.length=1 by omega);have hb0:=hkl x0 (by simp);obtain⟨rg,rfl,_,_,hc0⟩:=dQ ho 0 (x:=bl false x0) rfl;refine av rfl ?_;refine G.dB func35 H.mixed rfl (by kernel_rfl) ?_;refine RQ.au rfl rfl rfl rfl (af (off:=1) underlying39 rfl rfl H.dA rfl) ?_;refine RQ.au rfl rfl rfl rfl (ah H.dO rfl (kg.cell (i:=1) rfl)) ?_;refine RQ.au rfl rfl rfl rfl (aj.bf rfl rfl (by first|omega|(simp only[ByteArray.size_append];omega))) ?_;refine RQ.au rfl rfl rfl rfl (aj.bf rfl rfl (by first|omega|(simp only[ByteArray.size_append];omega))) ?_;refine RQ.au rfl rfl rfl rfl (aK rfl) ?_;refine RQ.au rfl rfl rfl rfl (aj.ay underlying93 H.dA rfl rfl 0 rfl rfl (by simp)) ?_;refine RQ.au rfl rfl rfl rfl (ah H.dO rfl hc0) ?_;refine RQ.au rfl rfl rfl rfl (aj.bf rfl rfl (by first|omega|(simp only[ByteArray.size_append];omega))) ?_;refine RQ.au rfl rfl rfl rfl (aj.bf rfl rfl (by first|omega|(simp only[ByteArray.size_append];omega))) ?_;refine RQ.au rfl rfl rfl rfl (aj.assign rfl) ?_;refine b8 rfl ?_;refine xu [1,2,3,7,8,9,10,20,21,26] rfl ?_;refine G.ret func35 rfl rfl ?_;refine⟨_,rfl,?_,e0g⟩;rw[ef (by decide)]
       show Value.string ((((bs [40]++bs t)++bs [32])++bs (bl false x0))++bs [41])=_
       simp only[bB];rfl
     · refine aW func35 2 [1,3,7,8,9,10,20,21,26,37] rfl ?_;refine aL rfl rfl (fun c5=>?_) (fun c5=>?_)
       · subst c5;have hbd2:2≤l.length∧l.length≤2:=hbd.2;obtain⟨x0,x1,rfl⟩:=Ea (show l.length=2 by omega);have hb0:=hkl x0 (by simp);have hb1:=hkl x1 (by simp);obtain⟨rg,rfl,_,_,hc0⟩:=dQ ho 0 (x:=bl false x0) rfl;obtain⟨rg',hrg,_,_,hc1⟩:=dQ ho 1 (x:=bl false x1) rfl;cases hrg;refine av rfl ?_;refine G.dB func35 H.mixed rfl (by kernel_rfl) ?_;refine RQ.au rfl rfl rfl rfl (aK rfl) ?_;refine RQ.au rfl rfl rfl rfl (aj.ay underlying93 H.dA rfl rfl 0 rfl rfl (by simp)) ?_;refine RQ.au rfl rfl rfl rfl (ah H.dO rfl hc0) ?_;refine RQ.au rfl rfl rfl rfl (aj.bf rfl rfl (by first|omega|(simp only[ByteArray.size_append];omega))) ?_;refine RQ.au rfl rfl rfl rfl (aj.bf rfl rfl (by first|omega|(simp only[ByteArray.size_append];omega))) ?_;refine RQ.au rfl rfl rfl rfl (af (off:=1) underlying39 rfl rfl H.dA rfl) ?_;refine RQ.au rfl rfl rfl rfl (ah H.dO rfl (kg.cell (i:=1) rfl)) ?_;refine RQ.au rfl rfl rfl rfl (aj.bf rfl rfl (by first|omega|(simp only[ByteArray.size_append];omega))) ?_;refine RQ.au rfl rfl rfl rfl (aj.bf rfl rfl (by first|omega|(simp only[ByteArray.size_append];omega))) ?_;refine RQ.au rfl rfl rfl rfl (aK rfl) ?_;refine RQ.au rfl rfl rfl rfl (aj.ay underlying93 H.dA rfl rfl 1 rfl rfl (by simp)) ?_;refine RQ.au rfl rfl rfl rfl (ah H.dO rfl hc1) ?_;refine RQ.au rfl rfl rfl rfl (aj.bf rfl rfl (by first|omega|(simp only[ByteArray.size_append];omega))) ?_;refine RQ.au rfl rfl rfl rfl (aj.bf rfl rfl (by first|omega|(simp only[ByteArray.size_append];omega))) ?_;refine RQ.au rfl rfl rfl rfl (aj.assign rfl) ?_;refine b8 rfl ?_;refine xu [1,2,3,7,8,9,10,20,21,26,37] rfl ?_;refine G.ret func35 rfl rfl ?_;refine⟨_,rfl,?_,e0g⟩;rw[ef (by decide)]
         show Value.string ((((((bs [40]++bs (bl false x0))++bs [32])++bs t)++bs [32])++bs (bl false x1))++bs [41])=_
         simp only[bB];rfl
       · refine aW func35 2 [1,3,7,8,9,10,20,21,26,37,53] rfl ?_;refine aL rfl rfl (fun c6=>?_) (fun c6=>?_)
         · subst c6;have hbd2:3≤l.length∧l.length≤3:=hbd.2;have hcall:=hch rfl g O _ (hg.ax e0g) (hv.mv (Mv.ax e0g));have hpl:=ig (.mk 6 t l) true;have hq:=bp (bl true (.mk 6 t l));refine xr func35 rfl ?_;refine xp rfl (aj.aG H.bN H.aV rfl kg.row (by first|rfl|(simp;done)|(simp;omega))) ?_;refine xo rfl (aq (vs:=[_]) func59 rfl H.J0 rfl (ai.bw (hcall))) ?_;rintro _ g2 ⟨rfl,e2⟩;refine xp rfl (aj.bf rfl rfl (by first|omega|(simp only[ByteArray.size_append];omega))) ?_;refine xp rfl (aj.bf rfl rfl (by first|omega|(simp only[ByteArray.size_append];omega))) ?_;refine aQ 1 [1,2,3,7,8,9,10,20,21,26,37,53] rfl ?_;refine G.ret func35 rfl rfl ?_;refine⟨_,rfl,?_,e0g.trans e2⟩;obtain⟨x0,x1,x2,rfl⟩:=FU (show l.length=3 by omega);rw[CP,←tS t]
           show Value.string ((bs [40]++bs (bl true (.mk 6 t [x0,x1,x2])))++bs [41])=_
           simp only[bB]
         · rw[ef c6];refine aW func35 2 [1,3,7,8,9,10,20,21,26,37,53,59] rfl ?_;refine aL rfl rfl (fun c7=>?_) (fun c7=>?_)
           · subst c7;have hbd2:1≤l.length∧l.length≤2:=hbd.2;refine av rfl ?_;refine br func35 1 rfl ?_;refine xp rfl (aj.aJ underlying93 rfl) ?_;refine aQ 1 [1,3,7,8,9,10,20,21,26,37,53,59,63] rfl ?_;refine aL rfl rfl (fun hone=>?_) (fun hone=>?_)
             · obtain⟨x0,rfl⟩:=Eb (show l.length=1 by omega);have hb0:=hkl x0 (by simp);obtain⟨rg,rfl,_,_,hc0⟩:=dQ ho 0 (x:=bl false x0) rfl;refine av rfl ?_;refine G.dB func35 H.mixed rfl (by kernel_rfl) ?_;refine RQ.au rfl rfl rfl rfl (af (off:=1) underlying39 rfl rfl H.dA rfl) ?_;refine RQ.au rfl rfl rfl rfl (ah H.dO rfl (kg.cell (i:=1) rfl)) ?_;refine RQ.au rfl rfl rfl rfl (aj.bf rfl rfl (by first|omega|(simp only[ByteArray.size_append];omega))) ?_;refine RQ.au rfl rfl rfl rfl (aj.bf rfl rfl (by first|omega|(simp only[ByteArray.size_append];omega))) ?_;refine RQ.au rfl rfl rfl rfl (aK rfl) ?_;refine RQ.au rfl rfl rfl rfl (aj.ay underlying93 H.dA rfl rfl 0 rfl rfl (by simp)) ?_;refine RQ.au rfl rfl rfl rfl (ah H.dO rfl hc0) ?_;refine RQ.au rfl rfl rfl rfl (aj.bf rfl rfl (by first|omega|(simp only[ByteArray.size_append];omega))) ?_;refine RQ.au rfl rfl rfl rfl (aj.assign rfl) ?_;refine b8 rfl ?_;refine xu [1,2,3,7,8,9,10,20,21,26,37,53,59,63] rfl ?_;refine G.ret func35 rfl rfl ?_;refine⟨_,rfl,?_,e0g⟩
               show Value.string (((bs [108,101,116,32]++bs t)++bs [32,61,32])++bs (bl false x0))=_
               simp only[bB];rfl
             · obtain⟨x0,x1,rfl⟩:=Ea (show l.length=2 by omega);have hb0:=hkl x0 (by simp);have hb1:=hkl x1 (by simp);obtain⟨rg,rfl,_,_,hc0⟩:=dQ ho 0 (x:=bl false x0) rfl;obtain⟨rg',hrg,_,_,hc1⟩:=dQ ho 1 (x:=bl false x1) rfl;cases hrg;refine aE rfl ?_;refine av rfl ?_;refine G.dB func35 H.mixed rfl (by kernel_rfl) ?_;refine RQ.au rfl rfl rfl rfl (af (off:=1) underlying39 rfl rfl H.dA rfl) ?_;refine RQ.au rfl rfl rfl rfl (ah H.dO rfl (kg.cell (i:=1) rfl)) ?_;refine RQ.au rfl rfl rfl rfl (aj.bf rfl rfl (by first|omega|(simp only[ByteArray.size_append];omega))) ?_;refine RQ.au rfl rfl rfl rfl (aj.bf rfl rfl (by first|omega|(simp only[ByteArray.size_append];omega))) ?_;refine RQ.au rfl rfl rfl rfl (aK rfl) ?_;refine RQ.au rfl rfl rfl rfl (aj.ay underlying93 H.dA rfl rfl 0 rfl rfl (by simp)) ?_;refine RQ.au rfl rfl rfl rfl (ah H.dO rfl hc0) ?_;refine RQ.au rfl rfl rfl rfl (aj.bf rfl rfl (by first|omega|(simp only[ByteArray.size_append];omega))) ?_;refine RQ.au rfl rfl rfl rfl (aj.bf rfl rfl (by first|omega|(simp only[ByteArray.size_append];omega))) ?_;refine RQ.au rfl rfl rfl rfl (aK rfl) ?_;refine RQ.au rfl rfl rfl rfl (aj.ay underlying93 H.dA rfl rfl 1 rfl rfl (by simp)) ?_;refine RQ.au rfl rfl rfl rfl (ah H.dO rfl hc1) ?_;refine RQ.au rfl rfl rfl rfl (aj.bf rfl rfl (by first|omega|(simp only[ByteArray.size_append];omega))) ?_;refine RQ.au rfl rfl rfl rfl (aj.bf rfl rfl (by first|omega|(simp only[ByteArray.size_append];omega))) ?_;refine RQ.au rfl rfl rfl rfl (aj.assign rfl) ?_;refine b8 rfl ?_;refine xu [1,2,3,7,8,9,10,20,21,26,37,53,59,63] rfl ?_;refine G.ret func35 rfl rfl ?_;refine⟨_,rfl,?_,e0g⟩
               show Value.string ((((((bs [40,108,101,116,32]++bs t)++bs [32,61,32])++bs (bl false x0))++bs [32,105,110,32])++bs (bl false x1))++bs [41])=_
               simp only[bB];rfl
           · refine aW func35 2 [1,3,7,8,9,10,20,21,26,37,53,59,86] rfl ?_;refine aL rfl rfl (fun c8=>?_) (fun c8=>?_)
             · subst c8;have hbd2:1≤l.length∧l.length≤1:=hbd.2;obtain⟨x0,rfl⟩:=Eb (show l.length=1 by omega);have hb0:=hkl x0 (by simp);obtain⟨rg,rfl,_,_,hc0⟩:=dQ ho 0 (x:=bl false x0) rfl;refine av rfl ?_;refine G.dB func35 H.mixed rfl (by kernel_rfl) ?_;refine RQ.au rfl rfl rfl rfl (af (off:=1) underlying39 rfl rfl H.dA rfl) ?_;refine RQ.au rfl rfl rfl rfl (ah H.dO rfl (kg.cell (i:=1) rfl)) ?_;refine RQ.au rfl rfl rfl rfl (aj.bf rfl rfl (by first|omega|(simp only[ByteArray.size_append];omega))) ?_;refine RQ.au rfl rfl rfl rfl (aj.bf rfl rfl (by first|omega|(simp only[ByteArray.size_append];omega))) ?_;refine RQ.au rfl rfl rfl rfl (aK rfl) ?_;refine RQ.au rfl rfl rfl rfl (aj.ay underlying93 H.dA rfl rfl 0 rfl rfl (by simp)) ?_;refine RQ.au rfl rfl rfl rfl (ah H.dO rfl hc0) ?_;refine RQ.au rfl rfl rfl rfl (aj.bf rfl rfl (by first|omega|(simp only[ByteArray.size_append];omega))) ?_;refine RQ.au rfl rfl rfl rfl (aj.bf rfl rfl (by first|omega|(simp only[ByteArray.size_append];omega))) ?_;refine RQ.au rfl rfl rfl rfl (aj.assign rfl) ?_;refine b8 rfl ?_;refine xu [1,2,3,7,8,9,10,20,21,26,37,53,59,86] rfl ?_;refine G.ret func35 rfl rfl ?_;refine⟨_,rfl,?_,e0g⟩
               show Value.string ((((bs [40,102,117,110,32]++bs t)++bs [32,45,62,32])++bs (bl false x0))++bs [41])=_
               simp only[bB];rfl
             · refine aW func35 2 [1,3,7,8,9,10,20,21,26,37,53,59,86,97] rfl ?_;refine aL rfl rfl (fun c9=>?_) (fun c9=>?_)
               · subst c9;have hbd2:2≤l.length∧l.length≤2:=hbd.2;obtain⟨x0,x1,rfl⟩:=Ea (show l.length=2 by omega);have hb0:=hkl x0 (by simp);have hb1:=hkl x1 (by simp);obtain⟨rg,rfl,_,_,hc0⟩:=dQ ho 0 (x:=bl false x0) rfl;obtain⟨rg',hrg,_,_,hc1⟩:=dQ ho 1 (x:=bl false x1) rfl;cases hrg;refine av rfl ?_;refine G.dB func35 H.mixed rfl (by kernel_rfl) ?_;refine RQ.au rfl rfl rfl rfl (aK rfl) ?_;refine RQ.au rfl rfl rfl rfl (aj.ay underlying93 H.dA rfl rfl 0 rfl rfl (by simp)) ?_;refine RQ.au rfl rfl rfl rfl (ah H.dO rfl hc0) ?_;refine RQ.au rfl rfl rfl rfl (aj.bf rfl rfl (by first|omega|(simp only[ByteArray.size_append];omega))) ?_;refine RQ.au rfl rfl rfl rfl (aK rfl) ?_;refine RQ.au rfl rfl rfl rfl (aj.ay underlying93 H.dA rfl rfl 1 rfl rfl (by simp)) ?_;refine RQ.au rfl rfl rfl rfl (ah H.dO rfl hc1) ?_;refine RQ.au rfl rfl rfl rfl (aj.bf rfl rfl (by first|omega|(simp only[ByteArray.size_append];omega))) ?_;refine RQ.au rfl rfl rfl rfl (aj.bf rfl rfl (by first|omega|(simp only[ByteArray.size_append];omega))) ?_;refine RQ.au rfl rfl rfl rfl (aj.assign rfl) ?_;refine b8 rfl ?_;refine xu [1,2,3,7,8,9,10,20,21,26,37,53,59,86,97] rfl ?_;refine G.ret func35 rfl rfl ?_;refine⟨_,rfl,?_,e0g⟩
                 show Value.string (((bs (bl false x0)++bs [40])++bs (bl false x1))++bs [41])=_
                 simp only[bB];rfl
               · refine aW func35 2 [1,3,7,8,9,10,20,21,26,37,53,59,86,97,108] rfl ?_;refine aL rfl rfl (fun c10=>?_) (fun c10=>?_)
                 · subst c10;have hq:=bp (dP (l.map (bl false)));refine br func35 1 rfl ?_;refine xo rfl (aq (vs:=[_,_]) func60 rfl H.LO rfl (ai.bw (CH (cK.read (h1:=fun _=>rfl) ho (fun _ _ k=>k)) (by omega)))) ?_;rintro _ g2 ⟨rfl,e2⟩;refine xp rfl (aj.bf rfl rfl (by first|omega|(simp only[ByteArray.size_append];omega))) ?_;refine xp rfl (aj.bf rfl rfl (by first|omega|(simp only[ByteArray.size_append];omega))) ?_;refine aQ 1 [1,2,3,7,8,9,10,20,21,26,37,53,59,86,97,108] rfl ?_;refine G.ret func35 rfl rfl ?_;refine⟨_,rfl,?_,e0g.trans e2⟩
                   show Value.string ((bs [123,32]++bs (dP (l.map (bl false))))++bs [32,125])=_
                   simp only[bB];rfl
                 · refine aE rfl ?_;refine G.aN ?_;refine xr func35 rfl ?_;refine xp rfl (af (off:=1) underlying39 rfl rfl H.dA rfl) ?_;refine xp rfl (ah H.dO rfl (kg.cell (i:=1) rfl)) ?_;refine aQ 1 [1,2,3,7,8,9,10,20,21,26,37,53,59,86,97,108] rfl ?_;refine G.ret func35 rfl rfl ?_;refine⟨_,rfl,?_,e0g⟩;unfold rV;rw[if_neg c1,if_neg c4,if_neg c5,if_neg c6,if_neg c7,if_neg c8,if_neg c9,if_neg c10];rfl
theorem E8:∀(d:Nat) (x:Tr),x.dep≤d→x.wt≤1000000→cO bX x=true→vJ x∧(x.kind=6→xO x):=by
 intro d
 induction d with
 |zero=>intro x hx;cases x with|mk k t l=>simp[Tr.dep] at hx
 |succ d ih =>
 intro x hd hw hva;cases x with
 |mk k t l =>
  have hva0:=hva;rw[gK,ku,Bool.and_eq_true,Bool.and_eq_true] at hva;obtain⟨⟨hbd,_⟩,hvq⟩:=hva;have hbd:(0≤k∧k≤10)∧(cz k).1≤l.length∧l.length≤(cz k).2:=of_decide_eq_true hbd;have hk:∀y∈l,vJ y∧(y.kind=6→xO y):=fun y hy=>ih y (by have:=lJ (k:=k) (t:=t) hy;omega) (by have:=jJ (k:=k) (t:=t) hy;omega) (qN hvq hy)
  have hch:k=6→xO (.mk k t l):=fun q=>by
   subst q;have hbd2:3≤l.length∧l.length≤3:=hbd.2;obtain⟨x0,x1,x2,rfl⟩:=FU (show l.length=3 by omega);exact Ev hw (hk x0 (by simp)).1 (hk x1 (by simp)).1 (hk x2 (by simp)).1 (hk x2 (by simp)).2
  exact⟨G3 hw hva0 (fun y hy=>(hk y hy).1) hch,hch⟩
def mB (x:Tr):By:=if cO bX x=true then bl false x else []
theorem pe (hw:x.wt≤1000000) (hg:Dq h) (hv:dS h O v x):ai Tryz.prog 16 #[v] h (cL fun r h'=>r= .string (bs (mB x))∧aF h h'):=by
 obtain⟨k,t,a,n,c,rfl,hR⟩:=id hv.get;refine ai.of func16 rfl rfl ?_;refine xr func16 rfl ?_;refine xo rfl (aC.fe rfl) ?_;rintro _ h1 ⟨rfl,k1,e1,z1⟩;refine aQ 1 [0,1,2] rfl ?_;refine av rfl ?_;refine xr func16 rfl ?_;refine xp rfl (aj.aG H.bN H.aV rfl k1.row (by first|rfl|(simp;done)|(simp;omega))) ?_;refine xo rfl (aq (vs:=[_]) func14 rfl H.Kj rfl (ai.bw (rS hw (hg.ax e1) (hv.mv (Mv.ax e1))))) ?_;rintro _ h2 ⟨rfl,e2⟩;refine aQ 1 [0,1,2,5] rfl ?_;refine aI rfl rfl (fun hb=>?_) (fun hb=>?_)
 · have hb:cO bX x=false:=by simpa using hb
   refine aW func16 1 [0,1,2,5] rfl ?_;refine G.ret func16 rfl rfl ?_;exact⟨_,rfl,by unfold mB;rw[hb];rfl,e1.trans e2⟩
 · have hb:cO bX x=true:=by simpa using hb
   have hcall:=(E8 _ x (Nat.le_refl _) hw hb).1 h2 O _ (hg.ax (e1.trans e2)) (hv.mv (Mv.ax (e1.trans e2)));refine aE rfl ?_;refine xr func16 rfl ?_;refine xp rfl (aj.aG H.bN H.aV rfl (k1.ax e2).row (by first|rfl|(simp;done)|(simp;omega))) ?_;refine xo rfl (aq (vs:=[_]) func35 rfl H.FC rfl (ai.bw (hcall))) ?_;rintro _ h3 ⟨rfl,e3⟩;refine aQ 1 [0,1,2,5] rfl ?_;refine G.ret func16 rfl rfl ?_;exact⟨_,rfl,by unfold mB;rw[if_pos hb];rfl,(e1.trans e2).trans e3⟩
def IP (x:Tr):Prop:=∀(y:Tr) (h:aD) (O O':Nat→Prop) (v v':Value),dS h O v x→dS h O' v' y→ai Tryz.prog 18 #[v,v'] h (cL fun r h'=>r= .bool (jA x y)∧aF h h')
theorem drop_cons {l:List α}{i:Nat}{x:α}(h:l[i]? =some x):l.drop i=x::l.drop (i+1):=by
 obtain⟨h1,h2⟩:=List.getElem?_eq_some_iff.1 h;rw[List.drop_eq_getElem_cons h1,h2]
theorem Ae {l':List Tr}(h:l.length≠l'.length):ij l l'=false:=by
 rw[Bool.eq_false_iff];intro q;rw[qT] at q;rw[q] at h;exact h rfl
theorem A3 {O':Nat→Prop}{l':List Tr}{v':Value}(hs:∀x∈l,IP x) (hv:bU eN h O v l) (hv':bU eN h O' v' l') :
 ai Tryz.prog 37 #[v,v',.func (.func 18) #[] #[]] h (cL fun r h'=>r= .bool (ij l l')∧aF h h'):=by
 obtain⟨a,n,c,rfl,hws⟩:=id hv.open;obtain⟨a',n',c',rfl,hws'⟩:=id hv'.open;have hn:l.length=n:=hws.len;have hn':l'.length=n':=hws'.len;subst hn hn';have hcap:=hws.cap;have hle:=hws.le;simp only[maxLen] at hcap;have hfn:H7 Tryz.prog 18:=⟨_,func18,rfl,by kernel_rfl⟩
 refine ai.of func37 rfl rfl ?_;refine aW func37 1 [0,1,2,6] rfl ?_;refine av rfl ?_;refine br func37 1 rfl ?_;refine xp rfl (aj.aJ underlying28 rfl) ?_;refine bP 1 rfl rfl (aj.aJ underlying28 rfl) ?_;refine aQ 1 [0,1,2,6,14] rfl ?_;refine aL rfl rfl (fun hne=>?_) (fun hne=>?_)
 · refine aW func37 1 [0,1,2,6,14] rfl ?_;refine G.ret func37 rfl rfl ?_;exact⟨_,rfl,by rw[Ae (by omega)];rfl,Ext.refl _ _⟩
 · have hll:l.length=l'.length:=by omega
   refine aE rfl ?_;refine av rfl ?_;refine br func37 1 rfl ?_;refine xp rfl (aj.aJ underlying28 rfl) ?_;refine aQ 1 [0,1,2,6,14,15,16,17] rfl ?_;refine G.block rfl rfl ?_;refine bE (σ:=Nat) (fun i=>[(15,.slice a l.length c),(1,.slice a' l'.length c'),(2,.func (.func 18) #[] #[]),(16,.int .i64 (l.length:Nat)),(17,.int .i64 (i:Nat))]) (fun i g=>i≤l.length∧aF h g∧ij (l.drop i) (l'.drop i)=ij l l') (fun i=>l.length-i) (0) rfl ⟨rfl,rfl,rfl,rfl,rfl,trivial⟩ ⟨Nat.zero_le _,Ext.refl _ _,rfl⟩ ?_;rintro i g ⟨hi,eg,hq⟩ ih;refine aW func37 1 [1,2,15,16,17,18] rfl ?_;refine av rfl ?_;refine aL rfl rfl (fun hlt=>?_) (fun hlt=>?_)
   · have hil:i<l.length:=by omega
     obtain⟨b,o,x,xk,xt,xa,xn,xc,ha,hx,hrow,hnx,_,_⟩:=gy (hws.mv (Mv.ax eg)) hil;rw[drop_cons hx] at hq;refine aE rfl ?_;refine av rfl ?_;refine G.block rfl rfl ?_;refine br func37 1 rfl ?_;refine xp rfl (aj.ay underlying28 H.aV rfl rfl i rfl ha (by omega)) ?_;refine xp rfl (aj.aG H.bN H.aV rfl hrow (by first|rfl|(simp;done)|(simp;omega))) ?_;refine xo rfl (aC.aR H.eG) ?_;rintro _ g1 ⟨rfl,kn,e3,z3⟩;refine aT 1 rfl ?_;refine RW.bZ rfl rfl rfl (aC.aB H.aV rfl rfl kn (by first|rfl|(simp;done)|(simp;omega)) (by first|decide|exact of_decide_eq_true rfl|(simp;done)|(simp;omega)) (eT)) ?_;rintro _ g2 ⟨rfl,kx,x2,z2⟩;have kx:bq g2 g.size 39 (iJ xk xt xa xn xc):=kx;have eg2:aF g g2:=aF.only e3 x2 (Nat.le_refl _);obtain⟨b',o',y,yk,yt,ya,yn,yc,ha',hy,hrow',hny,_,_⟩:=gy (hws'.mv (Mv.ax (eg.trans eg2))) (show i<l'.length by omega);rw[drop_cons hy,ij] at hq;refine xd [1,2,7,8,15,16,17,18] rfl ?_;refine br func37 2 rfl ?_;refine xp rfl (aj.ay underlying28 H.aV rfl rfl i rfl ha' (by omega)) ?_;refine xp rfl (aj.aG H.bN H.aV rfl hrow' (by first|rfl|(simp;done)|(simp;omega))) ?_;refine xo rfl (aC.aR H.eG) ?_;rintro _ g3 ⟨rfl,kn',e4,z4⟩;refine RW.bZ rfl rfl rfl (aC.aB H.aV rfl rfl kn' (by first|rfl|(simp;done)|(simp;omega)) (by first|decide|exact of_decide_eq_true rfl|(simp;done)|(simp;omega)) (eT)) ?_;rintro _ g4 ⟨rfl,ky,x4,zz4⟩;have ky:bq g4 g2.size 39 (iJ yk yt ya yn yc):=ky;have eg4:aF g2 g4:=aF.only e4 x4 (Nat.le_refl _);have hcall:=hs x (List.mem_of_getElem? hx) y g4 O O' _ _ (hnx.mv (Mv.ax (eg2.trans eg4))) (hny.mv (Mv.ax eg4));refine xd [1,2,7,8,9,15,16,17,18] rfl ?_;refine br func37 1 rfl ?_;refine xp rfl (aj.aG H.bN H.aV rfl (kx.ax eg4).row (by first|rfl|(simp;done)|(simp;omega))) ?_;refine xp rfl (aj.aG H.bN H.aV rfl ky.row (by first|rfl|(simp;done)|(simp;omega))) ?_;refine xo rfl (aC.Gq (vs:=[_,_]) rfl hfn rfl (ai.bw (hcall))) ?_;rintro _ g5 ⟨rfl,e5⟩;refine aQ 1 [1,2,7,8,9,15,16,17,18,30] rfl ?_;refine aI rfl rfl (fun hb=>?_) (fun hb=>?_)
     · have hb:jA x y=false:=by simpa using hb
       refine aW func37 1 [1,2,6,7,8,9,15,16,17,18,30] rfl ?_;refine G.ret func37 rfl rfl ?_;exact⟨_,rfl,by rw[←hq,hb];rfl,((eg.trans eg2).trans eg4).trans e5⟩
     · have hb:jA x y=true:=by simpa using hb
       rw[hb,Bool.true_and] at hq;refine aE rfl ?_;refine G.aN ?_;refine G.bT func37 rfl ?_;refine xp rfl (aj.bA rfl rfl ⟨by omega,by omega⟩) ?_;refine aQ 1 [1,2,7,8,9,15,16,17,18,30] rfl ?_;exact ih (i+1) _ _ ⟨rfl,rfl,rfl,rfl,rfl,trivial⟩ ⟨hil,((eg.trans eg2).trans eg4).trans e5,hq⟩ (by omega)
   · obtain rfl:i=l.length:=by omega
     rw[List.drop_length,hll,List.drop_length] at hq;refine bz rfl rfl ?_;refine aW func37 1 [1,2,6,15,16,17,18] rfl ?_;refine G.ret func37 rfl rfl ?_;exact⟨_,rfl,by rw[←hq];rfl,eg⟩
theorem Ff:∀(d:Nat) (x:Tr),x.dep≤d→IP x:=by
 intro d
 induction d with
 |zero=>intro x hx;cases x with|mk k t l=>simp[Tr.dep] at hx
 |succ d ih =>
 intro x hd y h O O' v v' hv hv';cases x with
 |mk k t l =>
 cases y with
 |mk k' t' l' =>
  obtain⟨w,rfl,hw⟩:=id hv.open;obtain⟨a,n,c,rfl,_⟩:=id hw.open;obtain⟨w',rfl,hw'⟩:=id hv'.open;obtain⟨a',n',c',rfl,_⟩:=id hw'.open;rw[jA];refine ai.of func18 rfl rfl ?_;refine xr func18 rfl ?_;refine xo rfl (aC.fe rfl) ?_;rintro _ h1 ⟨rfl,k1,e1,z1⟩;refine xo rfl (aC.fe rfl) ?_;rintro _ h2 ⟨rfl,k2,e2,z2⟩;have k1:bq h2 h.size 39 (iJ k t a n c):=k1.ax e2;have k2:bq h2 h1.size 39 (iJ k' t' a' n' c'):=k2;have e02:=e1.trans e2;have heq:=A3 (fun x hx=>ih x (by have:=lJ (k:=k) (t:=t) hx;omega)) (hw.ax e02) (hw'.ax e02);refine aQ 1 [0,1,2,3,4] rfl ?_;refine av rfl ?_;refine G.mH (fun(u:Unit) (h':aD)=>aF h2 h') (fun(u:Unit)=>[(4,.bool (decide (k=k') && (decide (t=t') && ij l l')))]) [(0,_),(1,_),(2,_),(3,_)] ⟨rfl,rfl,rfl,rfl,trivial⟩ func18 rfl ?_ ?_
  · refine xp rfl (af (off:=0) underlying39 rfl rfl H.bY rfl) ?_;refine xp rfl (ah H.cG rfl (k1.cell (i:=0) rfl)) ?_;refine xp rfl (af (off:=0) underlying39 rfl rfl H.bY rfl) ?_;refine xp rfl (ah H.cG rfl (k2.cell (i:=0) rfl)) ?_;refine aT 2 rfl ?_;refine aH (d:=10) rfl (fun p=>?_) (fun p=>?_)
    · have p:=of_decide_eq_true p;refine xp rfl (af (off:=1) underlying39 rfl rfl H.dA rfl) ?_;refine xp rfl (ah H.dO rfl (k1.cell (i:=1) rfl)) ?_;refine xp rfl (af (off:=1) underlying39 rfl rfl H.dA rfl) ?_;refine xp rfl (ah H.dO rfl (k2.cell (i:=1) rfl)) ?_;refine xp rfl (aj.cI rfl rfl) ?_;refine aT 2 rfl ?_;refine aH (d:=17) rfl (fun q=>?_) (fun q=>?_)
      · have q:t=t':=dx (of_decide_eq_true q);refine xp rfl (af (off:=2) underlying39 rfl rfl H.fE rfl) ?_;refine xp rfl (ah H.kN rfl (k1.cell (i:=2) rfl)) ?_;refine xp rfl (af (off:=2) underlying39 rfl rfl H.fE rfl) ?_;refine xp rfl (ah H.kN rfl (k2.cell (i:=2) rfl)) ?_;refine xo rfl (aq (vs:=[_,_,_]) func37 rfl H.L0 rfl (ai.bw (heq))) ?_;rintro _ h3 ⟨rfl,e3⟩;refine aT 2 rfl ?_;refine az rfl ?_;exact⟨(),e3,aA rfl (by rw[decide_eq_true p,decide_eq_true q];rfl),rfl,rfl,rfl,rfl,trivial⟩
      · have q:¬t=t':=fun r=>of_decide_eq_false q (by rw[r])
        refine aT 7 rfl ?_;refine az rfl ?_;exact⟨(),Ext.refl _ _,aA rfl (by rw[decide_eq_false q,decide_eq_true p];rfl),rfl,rfl,rfl,rfl,trivial⟩
    · have p:=of_decide_eq_false p;refine aT 14 rfl ?_;refine az rfl ?_;exact⟨(),Ext.refl _ _,aA rfl (by rw[decide_eq_false p];rfl),rfl,rfl,rfl,rfl,trivial⟩
  · rintro u h3 e3;refine G.ret func18 rfl rfl ?_;exact⟨_,rfl,rfl,e02.trans e3⟩
theorem vK {y:Tr}{O':Nat→Prop}{v':Value}(hv:dS h O v x) (hv':dS h O' v' y):ai Tryz.prog 18 #[v,v'] h (cL fun r h'=>r= .bool (jA x y)∧aF h h'):=Ff _ x (Nat.le_refl _) y h O O' v v' hv hv'
end
end Go.Proofs.YtedocgkapmeceaaGreatDoor
