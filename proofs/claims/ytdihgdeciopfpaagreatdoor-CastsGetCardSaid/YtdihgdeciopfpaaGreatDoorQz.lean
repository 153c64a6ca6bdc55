/- What the proof of the statement leans on (part 26). -/
import Derived.Below
import Derived.Lib.TrimUEq
import Derived.Test.YtdihgdeciopfpaaGreatDoorQy

namespace Go.Proofs.YtdihgdeciopfpaaGreatDoor
open Go Go.Lw
set_option maxRecDepth 20000
def Kf (h:au):Prop:=(∀c,c<256->cellAt h ⟨6,c,none⟩=some (.int .u8 (Lib.firstT c))) /\
 (∀i,i<16->cellAt h ⟨7,2*i,none⟩=some (.int .u8 (Lib.accLo i))/\cellAt h ⟨7,2*i+1,none⟩=some (.int .u8 (Lib.accHi i)))
structure Hw (h:au):Prop where
 sg:∃lim,lim<=h.size/\Sg h lim
 tens:lE h
 rules:jN h
 utf:Kf h
 most:∃m,cellAt h ⟨2,0,none⟩=some (.int .i64 m)
theorem Hw.aq {h h':au}(k:Hw h) (e:av h h'):Hw h':=by
 obtain⟨⟨lim,h1,h2⟩,h3,h4,h5,m,h6⟩:=k;have hz:=e.size;exact⟨⟨lim,by omega,h2.ext e (fun _ k=>k.elim)⟩,h3.aq e,h4.aq e,⟨fun c hc=>e.cell (fun k=>k) (h5.1 c hc),fun i hi=>⟨e.cell (fun k=>k) (h5.2 i hi).1,e.cell (fun k=>k) (h5.2 i hi).2⟩⟩,m,e.cell (fun k=>k) h6⟩
def fC (s:fE):List Value:=[.int .i64 s.1,.int .i64 s.2]
theorem qq (s:fE):∀v∈fC s,v.oneCell'=true:=fun v hv=>by simp[fC] at hv;rcases hv with rfl|rfl<;>rfl
def gF (t:Tk):List Value:=[.int .i64 t.1,.int .i64 t.2.1,.int .i64 t.2.2]
theorem qF (t:Tk):∀v∈gF t,v.oneCell'=true:=fun v hv=>by simp[gF] at hv;rcases hv with rfl|rfl|rfl<;>rfl
def NH:fF fE:=.record 2 (by decide) fC (fun _=>rfl) qq
def Is:fF Tk:=.record 3 (by decide) gF (fun _=>rfl) qF
end Go.Proofs.YtdihgdeciopfpaaGreatDoor
namespace Go.Proofs.YtdihgdeciopfpaaGreatDoor
open Go
section
variable {s:By}{j:Nat}
structure oK (s s':By) (lim:Nat) (d:Int) (p:Nat) (toks:List Tk) (sts:List fE) (a:Nat) (st:fE):Prop where
 le:a<=s'.length
 ge:p<=a
 len:toks.length<=(cx s').1.length
 go:cM toks.length s' 0 (0,0)=(a,st)
 htoks:toks=(cx s').1.take toks.length
 hsts:sts=(nZ s').take toks.length
 no:∀x,p<=x->x<a->lim<=x->¬Kh s s' d x
theorem ED (hj:j<=(cx s).1.length):cx s=((cx s).1.take j++(dF s.length (s.drop (cM j s 0 (0,0)).1) (cM j s 0 (0,0)).1 (cM j s 0 (0,0)).2).1,(dF s.length (s.drop (cM j s 0 (0,0)).1) (cM j s 0 (0,0)).1 (cM j s 0 (0,0)).2).2) /\
 nZ s=(nZ s).take j++gK s.length (s.drop (cM j s 0 (0,0)).1) (cM j s 0 (0,0)).2:=by
 have:=Gi j s.length s 0 (0,0) (Nat.le_refl _) hj;rw[Nat.sub_zero] at this;exact this
theorem AL (hj:j<=(cx s).1.length):(cx s).1.drop j=(dF s.length (s.drop (cM j s 0 (0,0)).1) (cM j s 0 (0,0)).1 (cM j s 0 (0,0)).2).1/\(cx s).2=(dF s.length (s.drop (cM j s 0 (0,0)).1) (cM j s 0 (0,0)).1 (cM j s 0 (0,0)).2).2 /\
 (nZ s).drop j=gK s.length (s.drop (cM j s 0 (0,0)).1) (cM j s 0 (0,0)).2:=by
 obtain⟨h1,h2⟩:=ED hj;have e1:=congrArg Prod.fst h1;have e2:=congrArg Prod.snd h1;simp only at e1 e2;have hs:=ng s;refine⟨?_,e2,?_⟩
 · have:=congrArg (List.drop j) e1;rw[List.drop_append,List.drop_take,Nat.sub_self,List.take_zero,List.nil_append,List.length_take,show j-min j (cx s).1.length=0 by omega,List.drop_zero] at this;exact this
 · have:=congrArg (List.drop j) h2;rw[List.drop_append,List.drop_take,Nat.sub_self,List.take_zero,List.nil_append,List.length_take,show j-min j (nZ s).length=0 by omega,List.drop_zero] at this;exact this
theorem KM (hj:j<=(cx s).1.length):j<(cx s).1.length↔(cM j s 0 (0,0)).1<s.length:=by
 have hg:=mI j s 0 (0,0);constructor
 · intro h;exact(HC h).1
 · intro h
   rcases Nat.lt_or_ge j (cx s).1.length with k|k
   · exact k
   · exfalso;have:=(AL hj).1;rw[List.drop_of_length_le k] at this;have hne:s.drop (cM j s 0 (0,0)).1≠[]:=fun e=>by have:=congrArg List.length e;rw[List.length_drop] at this;simp at this;omega
     rw[fR hne (by rw[List.length_drop];omega)] at this;cases this
theorem Bg {x:By}{i:Nat}(hij:i<=j) (hj:j<=s.length){p:Pt}(hb:Hi (yU s) i p){k:Nat}(hk:k<=(cx s).1.length)
 (h1:∀(q:Nat) (t:Tk),q<k->(cx s).1[q]? =some t->t.2.1<p.1) (h2:∀(q:Nat) (t:Tk),k<=q->(cx s).1[q]? =some t->p.1<=t.2.1) (lim:Nat) (d:Int) :
 ∃a:Nat,p.1=a/\a<=i/\oK s (iU s i j x) lim d a ((cx s).1.take k) ((kC s).take k) a p.2:=by
 have hs:=ng s
 by_cases hp:p=(0,(0,0))
 · subst hp
   have k0:k=0:=by
    rcases Nat.eq_zero_or_pos k with h|h
    · exact h
    · exfalso;have ht:(cx s).1[0]? =some (cx s).1[0]:=List.getElem?_eq_getElem (by omega);have:=h1 0 _ h ht;have:=(CF ht).1;simp only at *;omega
   subst k0;exact⟨0,rfl,Nat.zero_le _,Nat.zero_le _,Nat.le_refl _,by simp,by simp[cM],by simp,by simp,fun x h3 h4=>by omega⟩
 · obtain⟨hm,hle,_⟩:=hb;have hle:=hle.resolve_right hp
   rcases Fw hm with h|⟨q,hq,hq1,hq2⟩
   · exact absurd h hp
   · have ht:(cx s).1[q]? =some (cx s).1[q]:=List.getElem?_eq_getElem hq;have hf:=mX ht
     have kq:k=q:=by
      rcases Nat.lt_trichotomy k q with h|h|h
      · exfalso;have hu:(cx s).1[k]? =some (cx s).1[k]:=List.getElem?_eq_getElem (by omega);have h3:=Fa hu ht h;have h4:=h2 k _ (Nat.le_refl _) hu;omega
      · exact h
      · exfalso;have:=h1 q _ h ht;omega
     subst kq;have hA:s=s.take i++s.drop i:=(List.take_append_drop i s).symm;have hE:iU s i j x=s.take i++(x++s.drop j):=by unfold iU;rw[List.append_assoc]
     have hlen:(s.take i).length=i:=by rw[List.length_take];omega
     obtain⟨g1,g2,g3,g4⟩:=uV k s.length (iU s i j x).length (s.take i) (s.drop i) (x++s.drop j) 0 (0,0) (by rw[<-hA];exact Nat.le_refl _) (by rw[<-hE];exact Nat.le_refl _) (by rw[<-hA];exact hk) (.inr (by rw[<-hA,hlen];omega));rw[<-hE] at g1 g2 g3 g4;rw[<-hA] at g1 g3 g4;have hgk:cM k s 0 (0,0)=((cM k s 0 (0,0)).1,p.2):=by rw[<-hq2]
     have hl:((cx s).1.take k).length=k:=by rw[List.length_take];omega
     refine⟨(cM k s 0 (0,0)).1,hq1.symm,by omega,?_,Nat.le_refl _,?_,?_,?_,?_,fun y h3 h4=>by omega⟩
     · have:=mI k (iU s i j x) 0 (0,0);rw[g1] at this;omega
     · rw[hl];exact g2
     · rw[hl,g1];exact hgk
     · rw[hl];exact g3.symm
     · rw[hl]
       have:(kC s).take k=(nZ s).take k:=by
        rw[qQ,List.take_append_of_le_length (by rw[kJ];omega)]
       rw[this];exact g4.symm
section
variable {s s':By}{lim:Nat}{d:Int}{p:Nat}{toks:List Tk}{sts:List fE}{a:Nat}{st:fE}
theorem oK.Ly (k:oK s s' lim d p toks sts a st):sts.length=toks.length:=by
 have h1:=k.hsts;have h2:=k.len;have h3:=ng s';rw[h1,List.length_take];omega
theorem oK.done (k:oK s s' lim d p toks sts a st) (ha:a=s'.length):toks=(cx s').1/\sts=kC s'/\st=(cx s').2:=by
 have hl:toks.length=(cx s').1.length:=by
  rcases Nat.lt_or_ge toks.length (cx s').1.length with h|h
  · rw[KM k.len,k.go] at h;simp only at h;omega
  · have:=k.len;omega
 refine⟨by rw[k.htoks,hl,List.take_length],?_,?_⟩
 · rw[k.hsts,hl];have:=kJ s';rw[qQ,List.take_append_of_le_length (by omega),<-this,List.take_length]
 · have:=(AL k.len).2.1;rw[k.go] at this;simp only at this;rw[this,ha,List.drop_length,lC]
end
end
end Go.Proofs.YtdihgdeciopfpaaGreatDoor
namespace Go.Proofs.YtdihgdeciopfpaaGreatDoor
open Go.Proofs.Tryz
open Go Go.Lw
set_option maxRecDepth 20000
section
variable {h:au}
theorem Gf {a b:Nat}(hb:a+b<4611686018427387904):Int.fdiv ((a:Int)+(b:Int)) (2 ^ min ((1:Int).toNat) IntKind.u64.bits)=(((a+b) / 2:Nat):Int):=by
 have:(2:Int) ^ min ((1:Int).toNat) IntKind.u64.bits=2:=by decide
 rw[this,Int.fdiv_eq_ediv_of_nonneg _ (by decide)];omega
theorem jz {g:FuncId}{caps:List Value}(hf:Nv Tryz.prog g) (n:Nat) (hn:n<=1000000) (p:Nat->Bool) (hp:∀i:Nat,i<n->af Tryz.prog g ([Value.int .i64 (i:Nat)]++caps).toArray h (bC fun r h'=>r= .bool (p i)/\h'=h)) :
 af Tryz.prog 230 #[.int .i64 (n:Nat),.func (.func g) #[] caps.toArray] h (bC fun r h'=>(∃k:Nat,r= .int .i64 (k:Nat)/\k<=n/\(0<k->p (k-1)=false)/\(k<n->p k=true))/\h'=h):=by
 refine af.of func230 rfl rfl ?_;refine aQ func230 1 [0,1,4] rfl ?_;refine aQ func230 3 [0,1,4,5,6] rfl ?_;refine ak rfl ?_;refine G.block rfl rfl ?_;refine bf (σ:=Nat×Nat) (fun q=>[(1,.func (.func g) #[] caps.toArray),(5,.int .i64 (q.1:Nat)),(6,.int .i64 (q.2:Nat))]) (fun q h'=>h'=h/\q.1<=q.2/\q.2<=n/\(0<q.1->p (q.1-1)=false)/\(q.2<n->p q.2=true)) (fun q=>q.2-q.1) ((0,n)) rfl ⟨rfl,rfl,rfl,trivial⟩ ⟨rfl,Nat.zero_le _,Nat.le_refl _,fun k=>absurd k (Nat.lt_irrefl _),fun k=>absurd k (Nat.lt_irrefl _)⟩ ?_;rintro⟨i,j⟩ w ⟨rfl,hij,hj,h1,h2⟩ ih
 try dsimp only
 dsimp only at hij hj h1 h2;refine ak rfl ?_;refine aQ func230 3 [1,5,6,11] rfl ?_;refine aN rfl rfl (fun hlt=>?_) (fun hlt=>?_)
 · have hlt':i<j:=by omega
   have hm:(i+j) / 2<n:=by omega
   refine az rfl ?_;refine G.block rfl rfl ?_;refine bg func230 2 rfl ?_;refine xp rfl (ai.aT rfl rfl ⟨by omega,by omega⟩) ?_;refine xp rfl (ai.fP underlying3 underlying321 rfl (jb (by omega))) ?_;refine xp rfl (Dp rfl rfl (by decide)) ?_;rw[Gf (by omega)];have hpm:=hp ((i+j) / 2) hm;generalize hmm:(i+j) / 2=m at *;refine xp rfl (ai.fP underlying321 underlying3 rfl (wrap_i64 ⟨by omega,by omega⟩)) ?_;refine aM 1 [1,5,6,7,11] rfl ?_;refine bg func230 2 rfl ?_;refine xo rfl (ax.J4 (vs:=[_]) rfl hf rfl (af.aX (hpm))) ?_;rintro _ w1 ⟨rfl,hw1⟩;refine aM 1 [1,5,6,7,11,21] rfl ?_;subst hw1;refine ay rfl rfl (fun hb=>?_) (fun hb=>?_)
   · have hb':p m=false:=by simpa using hb
     refine G.bB func230 rfl ?_;refine bO 1 rfl rfl (ai.aT rfl rfl ⟨by omega,by omega⟩) ?_;refine aM 1 [1,5,6,7,11,21] rfl ?_;refine G.aJ ?_;exact ih (m+1,j) _ _ ⟨rfl,rfl,rfl,trivial⟩ ⟨rfl,by show m+1<=j;omega,hj,fun _=>by show p (m+1-1)=false;rw[Nat.add_sub_cancel];exact hb',h2⟩ (by show j-(m+1)<j-i;omega)
   · have hb':p m=true:=by simpa using hb
     refine G.bB func230 rfl ?_;refine aM 2 [1,5,6,7,11,21] rfl ?_;refine G.aJ ?_;exact ih (i,m) _ _ ⟨rfl,rfl,rfl,trivial⟩ ⟨rfl,by show i<=m;omega,by show m<=n;omega,h1,fun _=>hb'⟩ (by show m-i<j-i;omega)
 · obtain rfl:i=j:=by omega
   refine aW rfl rfl ?_;refine aQ func230 2 [1,4,5,6,11] rfl ?_;refine G.ret func230 rfl rfl ?_;exact⟨_,rfl,⟨i,rfl,hj,h1,h2⟩,rfl⟩
theorem wV {b1 b2:Nat}{v:Value}{O:Nat->Prop}{xs:List Tk}{a:Int}(k1:aL h b1 215 [v]) (k2:aL h b2 3 [.int .i64 a]) (hv:bF Is h O v xs) (i:Nat){t:Tk}(ht:xs[i]? =some t) :
 af Tryz.prog 232 #[.int .i64 (i:Nat),.pointer (some ⟨b1,0,none⟩),.pointer (some ⟨b2,0,none⟩)] h (bC fun r h'=>r= .bool (decide (a<=t.2.1))/\h'=h):=by
 obtain⟨va,vn,vc,rfl,hvs⟩:=hv.open;have hl:xs.length=vn:=hvs.len;have hi:=(List.getElem?_eq_some_iff.1 ht).1;obtain⟨bb,o,t',ha,_,ht',hrow⟩:=hvs.iR (i:=i) (by omega);obtain rfl:t'=t:=Option.some.inj (ht'.symm.trans ht);refine af.of func232 rfl rfl ?_;refine aQ func232 1 [0,1,2,4] rfl ?_;refine ak rfl ?_;refine G.gG func232 H.mixed rfl (by kernel_rfl) ?_;refine RQ.an rfl rfl rfl rfl (ah H.tH rfl (k1.cell (i:=0) rfl)) ?_;refine RQ.an rfl rfl rfl rfl (aF rfl) ?_;refine RQ.an rfl rfl rfl rfl (ai.aA underlying215 H.jf rfl rfl i rfl ha (by omega)) ?_;refine RQ.an rfl rfl rfl rfl (aa (off:=1) underlying281 rfl rfl H.bG rfl) ?_;refine RQ.an rfl rfl rfl rfl (ah H.bU rfl (hrow 1 _ rfl)) ?_;refine RQ.an rfl rfl rfl rfl (ah H.bU rfl (k2.cell (i:=0) rfl)) ?_;refine RQ.an rfl rfl rfl rfl (nV rfl rfl) ?_;refine RQ.an rfl rfl rfl rfl (ai.assign rfl) ?_;refine RQ.done rfl ?_;refine xu [0,1,2,4] rfl ?_;refine G.ret func232 rfl rfl ?_;exact⟨_,rfl,rfl,rfl⟩
theorem vT {v:Value}{O:Nat->Prop}{xs:List Tk}(hv:bF Is h O v xs) (hx:xs.length<=1000000) (hs:∀(i j:Nat) (t u:Tk),xs[i]? =some t->xs[j]? =some u->i<j->t.2.1<u.2.1) (a:Int) :
 af Tryz.prog 180 #[v,.int .i64 a] h (bC fun r h'=>(∃k:Nat,r= .int .i64 (k:Nat)/\k<=xs.length/\(∀(q:Nat) (t:Tk),q<k->xs[q]? =some t->t.2.1<a)/\(∀(q:Nat) (t:Tk),k<=q->xs[q]? =some t->a<=t.2.1))/\av h h'):=by
 obtain⟨va,vn,vc,rfl,hvs⟩:=id hv.open;have hl:xs.length=vn:=hvs.len;subst hl;refine af.of func180 rfl rfl ?_;refine xr func180 rfl ?_;refine xo rfl (ax.cq rfl) ?_;rintro _ h1 ⟨rfl,k1,e1,z1⟩;refine xo rfl (ax.cq rfl) ?_;rintro _ h2 ⟨rfl,k2,e2,z2⟩;have k1:aL h1 h.size 215 [.slice va xs.length vc]:=k1;have k2:aL h2 h1.size 3 [.int .i64 a]:=k2;have e02:=e1.trans e2
 have hsr:=jz (h:=h2) (g:=232) (caps:=[.pointer (some ⟨h.size,0,none⟩),.pointer (some ⟨h1.size,0,none⟩)]) ⟨_,func232,rfl,by kernel_rfl⟩ xs.length hx (fun i=>match xs[i]? with|some t=>decide (a<=t.2.1)|none=>false) (fun i hi=>by
  have ht:xs[i]? =some xs[i]:=List.getElem?_eq_getElem hi;simp only[ht];exact wV (k1.aq e2) k2 (hv.aq e02) i ht)
 refine aM 1 [0,1,2,3,4] rfl ?_;refine xr func180 rfl ?_;refine xp rfl (ah H.tH rfl ((k1.aq e2).cell (i:=0) rfl)) ?_;refine xp rfl (ai.aI underlying215 rfl) ?_;refine xp rfl (ai.makeFunc (vs:=[_,_]) rfl) ?_;refine xo rfl (aj (vs:=[_,_]) func230 rfl H.FI rfl (af.aX (hsr))) ?_;rintro _ h3 ⟨⟨k,rfl,hk,hk1,hk2⟩,hh3⟩;refine aM 1 [0,1,2,3,4] rfl ?_;subst hh3;refine G.ret func180 rfl rfl ?_;refine⟨_,rfl,⟨k,rfl,hk,fun q t hq ht=>?_,fun q t hq ht=>?_⟩,e02⟩
 · have h0:=hk1 (by omega);have hl:xs[k-1]? =some xs[k-1]:=List.getElem?_eq_getElem (by omega);simp only[hl] at h0;have h0:=of_decide_eq_false h0
   rcases Nat.lt_or_ge q (k-1) with h4|h4
   · have:=hs q (k-1) t _ ht hl h4;omega
   · obtain rfl:q=k-1:=by omega
     rw[ht] at hl;obtain rfl:=Option.some.inj hl;omega
 · have hq':=(List.getElem?_eq_some_iff.1 ht).1;have h0:=hk2 (by omega);have hl:xs[k]? =some xs[k]:=List.getElem?_eq_getElem (by omega);simp only[hl] at h0;have h0:=of_decide_eq_true h0
   rcases Nat.lt_or_ge k q with h4|h4
   · have:=hs k q _ t hl ht h4;omega
   · obtain rfl:q=k:=by omega
     rw[ht] at hl;obtain rfl:=Option.some.inj hl;omega
end
end Go.Proofs.YtdihgdeciopfpaaGreatDoor
