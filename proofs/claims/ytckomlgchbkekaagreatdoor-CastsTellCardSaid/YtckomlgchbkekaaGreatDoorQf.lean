/- What the proof of the statement leans on (part 6). -/
import Derived.Laws.IdiomStrings
import Derived.Laws.BytesArg
import Derived.Test.YtckomlgchbkekaaGreatDoorQe

namespace Go.Lw
open Go.RowKit
section
variable {t e:TypeId}{v:Value}{n sz:Nat}{O:Nat->Prop}{h:ai}
section
variable {P:Program}{ρ:Env}{h:ai}{dst:Option Nat}{ty:TypeId}{pos:String}{after:Array Edge}{guard:Option (Nat×Bool)}{X:List PanicEntry->ai->Prop}
theorem fJ (h:ai) (us:List Value) (t:TypeId):rowAt (h.push (.cells us.toArray t)) h.size 0 us:=fun j v hv=>by
 rw[Nat.zero_add];exact qF h _ _ _ _ _ (by simpa using hv)
theorem aH.tQ {size bytes:Nat}{ps:Array (Nat×Operand)}{cs:List Value}(ht:P.underlying t=some (.slice e)) (he:cD P e size bytes)
 (hps:ps.toList.map (fun p=>(p.1,aT ρ p.2))=[(0,some (.agg cs.toArray))]) (hn:cs.length=size) (hsz:size<=16777216) :
 aH P ⟨dst,.buildSlice t 1 ps,ty,pos,after,guard⟩ ρ h (fun u g=>u= .slice (some ⟨h.size,0,none⟩) 1 1/\g=h.push (.cells cs.toArray e)) X:=by
 refine aH.buildSlice (vs:=[(0,.agg cs.toArray)]) ht he hps (by omega) (fun z hz=>?_)
 have key:∀(cs:List Value) (k:Nat) (pre tl:List Value),pre.length=k->tl.length=cs.length ->
  (cs.zipIdx k).foldl (fun(a:Array Value) (p:Value×Nat)=>a.setIfInBounds p.2 p.1) (pre++tl).toArray=(pre++cs).toArray:=by
  intro cs
  induction cs with
  |nil =>
   intro k pre tl _ hl;have:tl=[]:=List.eq_nil_of_length_eq_zero (by simpa using hl);subst this;rfl
  |cons c cs ih =>
   intro k pre tl hp hl;cases tl with
   |nil=>simp at hl
   |cons t tl =>
    rw[List.zipIdx_cons,List.foldl_cons]
    have hset:(pre++t::tl).toArray.setIfInBounds k c=((pre++[c])++tl).toArray:=by
     subst hp;simp[List.set_append_right]
    simp only[hset];rw[ih (k+1) (pre++[c]) tl (by simp[hp]) (by simpa using hl)];simp
 subst hn;simp only[Instr.fill,Nat.zero_mul,Nat.one_mul,Value.cells];rw[if_neg (by simp)]
 congr 1
 have e1:(Array.map (fun x=>z[x%z.size]!) (Array.range cs.length))=([]++(List.range cs.length).map (fun x=>z[x%z.size]!)).toArray:=by
  apply Array.ext';simp
 rw[e1];have:=key cs 0 [] ((List.range cs.length).map (fun x=>z[x%z.size]!)) rfl (by simp)
 have e2:(cs.toArray.zipIdx.foldl (fun(a:Array Value) (p:Value×Nat)=>a.setIfInBounds (0+p.2) p.1) ([]++(List.range cs.length).map (fun x=>z[x%z.size]!)).toArray)=([]++cs).toArray:=by
  rw[<-this];simp
 simpa using e2
theorem aH.dO {size bytes:Nat}{x y:Operand}{xs news:List Value}{m c base:Nat}{h0:ai}(ht:P.underlying t=some (.slice e)) (he:cD P e size bytes)
 (hx:aT ρ x=some v) (hy:aT ρ y=some (.slice (some ⟨h0.size,0,none⟩) m c)) (hown:ay h0 base e size v n xs) (hh:h=h0.push (.cells news.toArray e)) (hl:news.length=m*size)
 (h1:∀u∈news,u.oneCell'=true) (hn:n+m<=1000000000) (hby:bytes<=1000) (hbase:base<=h0.size) :
 aH P ⟨dst,.call ⟨.builtin .append,#[x,y],#[t,t]⟩,ty,pos,after,guard⟩ ρ h (fun v' h'=>ay h' base e size v' (n+m) (xs++news)/\Ext (b8 v.ownBlock) h0 h'/\Ext (b8 v.ownBlock) h h'/\(∀b,v'.ownBlock=some b->v.ownBlock=some b\/h0.size<=b)) X:=by
 subst hh;have hp:=Ext.push (fun _=>False) h0 (.cells news.toArray e);have hs:(h0.push (.cells news.toArray e)).size=h0.size+1:=by simp
 have hmul:(n+m)*bytes<=1000000000*1000:=Nat.mul_le_mul hn hby
 refine(bR ht he hx hy (hown.ext hp (fun _ _ k=>k)) hl (.inr ⟨_,_,rfl,fJ _ _ _⟩) h1 (by simp only[maxLen];omega) (by omega) (by omega)).mono (fun v' h' ⟨k1,k2,_,k4⟩=>⟨k1,?_,k2,fun b hb=>?_⟩) (fun _ _ k=>k)
 · exact(ah.of hp).trans k2
 · rcases k4 b hb with k|k
   · exact .inl k
   · exact .inr (by omega)
theorem an.Fe {s d:TypeId}{x:Operand}{l:List UInt8}(hs:P.underlying s=some (.slice e)) (he:P.underlying e=some (.int .u8)) (hd:P.underlying d=some .string)
 (hx:aT ρ x=some v) (hv:aR .byte h O v l):an P ⟨dst,.convert s d x,ty,pos,after,guard⟩ ρ h (.string ⟨l.toArray⟩):=by
 intro _ B a w hf ha;obtain⟨oa,n,c,rfl,hsl⟩:=hv.open;have hn:=hsl.len;subst hn
 have key:(convert s d (.slice oa l.length c)).run P w= .ok (.string ⟨l.toArray⟩) w:=by
  cases oa with
  |none =>
   have hl:l=[]:=by
    rcases Nat.eq_zero_or_pos l.length with h0|h0
    · exact List.eq_nil_of_length_eq_zero h0
    · obtain⟨b,o,x,ha,_⟩:=hsl.at h0;cases ha
   subst hl;rw[run_convert_bytes_string w s d e none _ c hs he hd];rfl
  |some p =>
   refine run_convert_bytes_back w s d e p c l hs he hd (fun j hj=>?_);obtain⟨b,o,y,hp,_,hy,hc⟩:=hsl.at hj;cases hp;rw[ha.cell];rw[List.getElem?_eq_getElem hj] at hy;cases hy;simpa [Addr.add_mid] using hc
 simp only[execOp,hf.eval hx,Sem.run_bind,key,Result.andThen_ok,Sem.run_pure]
end
def fS.record {α:Type}(sz:Nat) (pos:0<sz) (enc:α->List Value) (hl:∀x,(enc x).length=sz) (h1:∀x,∀v∈enc x,v.oneCell'=true):fS α where
 sz:=sz
 pos:=pos
 R:=fun _ _ cs x=>cs=enc x
 len:=fun h=>by subst h;exact hl _
 one:=fun h=>by subst h;exact h1 _
 mv:=fun h _=>h
theorem Sl.fC {α:Type}{pos:0<sz}{enc:α->List Value} {hl:∀x,(enc x).length=sz} {h1:∀x,∀v∈enc x,v.oneCell'=true}{oa:Option Addr}{c:Nat}{xs:List α}(k:Sl (.record sz pos enc hl h1) h O oa n c xs){i:Nat}(hi:i<n) :
 ∃b o x,oa=some ⟨b,o,none⟩/\¬O b/\xs[i]? =some x/\rowAt h b (o+i*sz) (enc x):=by
 have hlt:i<xs.length:=by rw[k.len];exact hi
 obtain⟨b,o,cs,ha,ho,hr,hR⟩:=k.get i xs[i] (List.getElem?_eq_getElem hlt);have hcs:cs=enc xs[i]:=hR;subst hcs;exact⟨b,o,xs[i],ha,ho,List.getElem?_eq_getElem hlt,hr⟩
theorem dG {α:Type}{sz:Nat}{enc:α->List Value}(hl:∀x,(enc x).length=sz):∀(xs:List α) (i:Nat) (x:α) (j:Nat) (v:Value),xs[i]? =some x->(enc x)[j]? =some v->(xs.flatMap enc)[i*sz+j]? =some v
 | [],i,x,j,v,hx,_=>by simp at hx
 |y::ys,0,x,j,v,hx,hv=>by
  simp at hx;subst hx;have:j<(enc y).length:=(List.getElem?_eq_some_iff.1 hv).1;rw[List.flatMap_cons,Nat.zero_mul,Nat.zero_add,List.getElem?_append_left this];exact hv
 |y::ys,i+1,x,j,v,hx,hv=>by
  rw[List.flatMap_cons,List.getElem?_append_right (by rw[hl,Nat.add_mul];omega),hl];have:(i+1)*sz+j-sz=i*sz+j:=by rw[Nat.add_mul];omega
  rw[this];exact dG hl ys i x j v (by simpa using hx) hv
theorem dz {α:Type}{sz:Nat}{enc:α->List Value}(hl:∀x,(enc x).length=sz):∀xs:List α,(xs.flatMap enc).length=xs.length*sz
 | []=>by simp
 |y::ys=>by rw[List.flatMap_cons,List.length_append,hl,dz hl ys,List.length_cons,Nat.add_mul];omega
theorem ay.Gc {α:Type}{pos:0<sz}{enc:α->List Value} {hl:∀x,(enc x).length=sz} {h1:∀x,∀v∈enc x,v.oneCell'=true}{base:Nat}{xs:List α}
 (k:ay h base t sz v n (xs.flatMap enc)) (ho:∀b,base<=b->¬O b):aR (.record sz pos enc hl h1) h O v xs:=by
 have hn:xs.length=n:=by
  have:=k.1;rw[dz hl] at this;exact Nat.eq_of_mul_eq_mul_right pos this
 rcases k.2 with ⟨rfl,rfl⟩|⟨g,cap,cur,rfl,hb,hg,hnc,hc,hs,ht⟩
 · exact⟨none,0,0,rfl,hn,Nat.le_refl _,by simp[maxLen],fun i x hx=>by
    have:xs=[]:=List.eq_nil_of_length_eq_zero hn;subst this;simp at hx⟩
 · refine⟨some ⟨g,0,none⟩,n,cap,rfl,hn,hnc,hc,fun i x hx=>⟨g,0,enc x,rfl,ho g hb,?_,rfl⟩⟩;intro j u hj;have h2:=dG hl xs i x j u hx hj;rw[<-ht,List.getElem?_take] at h2;split at h2
   · have h3:cur[i*sz+j]? =some u:=by simpa using h2
     simpa [cellAt,hg,fS.record,Nat.add_assoc] using h3
   · cases h2
theorem cX.KM {P:Program}{ρ:Env}{a:Tmp}{b o:Nat}{cs:List Value}(hr:aJ P t=some true) (hs:bE P t=some sz) (hx:ρ.at a=some (.pointer (some ⟨b,o,none⟩))) (hc:rowAt h b o cs) (hn:cs.length=sz):cX P ρ h (.cell a t) (.agg cs.toArray) :=
 cX.row hr (by rw[hn];exact hs) hx hc
end
end Go.Lw
namespace Go.Lw
section
variable {α:Type}{h h':ai}{base sz:Nat}{t:TypeId}{v:Value}
def bF {α:Type}(enc:α->Value) (h:ai) (base:Nat) (t:TypeId) (v:Value) (xs:List α):Prop:=ay h base t 1 v xs.length (xs.map enc)
theorem bF.of {enc:α->Value}{xs ys:List α}{n m:Nat}{news:List Value}(k:ay h base t 1 v (n+m) (xs.map enc++news)) (hn:n=xs.length) (hm:m=ys.length) (hnews:news=ys.map enc):bF enc h base t v (xs++ys):=by
 unfold bF;subst hn hm hnews;simpa using k
theorem bF.nil {α:Type}(enc:α->Value) (h:ai) (base:Nat) (t:TypeId):bF enc h base t (.slice none 0 0) []:=ay.nil h base t 1
theorem jD {α:Type}(enc:α->Value) (h:ai) (t:TypeId) (xs:List α) (n:Nat) (hn:xs.length=n) (hm:n<=maxLen) (base:Nat) (hb:base<=h.size){us:List Value}(hu:us=xs.map enc):bF enc (h.push (.cells us.toArray t)) base t (.slice (some ⟨h.size,0,none⟩) n n) xs:=by
 subst hn hu;exact FD h (xs.map enc) t xs.length (by simp) hm base hb
theorem bF.read {enc:α->Value} {h1:∀x,(enc x).oneCell'=true}{O:Nat->Prop}{xs:List α}(k:bF enc h base t v xs) (ho:∀b,base<=b->¬O b):aR (.flat enc h1) h O v xs:=ay.shut k ho
theorem bF.af {enc:α->Value}{xs:List α}(k:bF enc h base t v xs) (e:ah h h'):bF enc h' base t v xs:=ay.ext e k (fun _ _ k=>k)
theorem bF.grown {enc:α->Value}{h0:ai}{xs:List α}(e0:ah h0 h) (k:bF enc h base t v xs) (hb:h0.size<=base) (e:Ext (b8 v.ownBlock) h h'):ah h0 h':=Ext.own e0 k hb e
def uM (b:UInt8):Value:=.int .u8 b.toNat
abbrev FL (h:ai) (base:Nat) (t:TypeId) (v:Value) (xs:List UInt8):Prop:=bF uM h base t v xs
def eP {α:Type}(sz:Nat) (enc:α->List Value) (h:ai) (base:Nat) (t:TypeId) (v:Value) (xs:List α):Prop:=ay h base t sz v xs.length (xs.flatMap enc)
theorem eP.of {enc:α->List Value}{xs:List α}{y:α}{n:Nat}{news:List Value}(k:ay h base t sz v (n+1) (xs.flatMap enc++news)) (hn:n=xs.length) (hnews:news=enc y):eP sz enc h base t v (xs++[y]):=by
 unfold eP;subst hn hnews;simpa using k
theorem eP.nil {α:Type}(sz:Nat) (enc:α->List Value) (h:ai) (base:Nat) (t:TypeId):eP sz enc h base t (.slice none 0 0) []:=ay.nil h base t sz
theorem eP.af {enc:α->List Value}{xs:List α}(k:eP sz enc h base t v xs) (e:ah h h'):eP sz enc h' base t v xs:=ay.ext e k (fun _ _ k=>k)
theorem eP.read {pos:0<sz}{enc:α->List Value} {hl:∀x,(enc x).length=sz} {h1:∀x,∀v∈enc x,v.oneCell'=true}{O:Nat->Prop}{xs:List α}(k:eP sz enc h base t v xs) (ho:∀b,base<=b->¬O b):aR (.record sz pos enc hl h1) h O v xs:=ay.Gc k ho
end
end Go.Lw
